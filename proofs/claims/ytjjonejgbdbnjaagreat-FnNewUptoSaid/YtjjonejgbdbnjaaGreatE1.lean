/- A part of the proof: texts ECore, ERel, EBase, EOps1, EOps2, EOps3, EOps4, EOwn, EOps5, EOps6, EOps7, EOps8, EMem, EOps9, EOps10: see the last part's opening words. -/
import Derived.Orders
import Derived.Tactics
import Derived.Laws.StructEq
import Derived.Laws.BytesString
set_option linter.unusedVariables false
set_option linter.unusedSimpArgs false
set_option linter.unnecessarySimpa false
namespace Go.E

/-! leaf types, data, modes -/
inductive ST where
  | int (k : IntKind) | bool | str | any
  deriving DecidableEq, Repr, Inhabited
inductive LT where
  | sc (s : ST) | sl (es : List LT)
  deriving Repr, Inhabited
inductive T where
  | i (n : Int) | b (x : Bool) | s (x : ByteArray) | l (rows : List (List T)) | x (v : Value)
  deriving Inhabited
def T.int : T → Int | .i n => n | _ => 0
def T.bool : T → Bool | .b y => y | _ => false
def T.str : T → ByteArray | .s y => y | _ => .empty
def T.rows : T → List (List T) | .l r => r | _ => []
mutual
def LT.beq : LT → LT → Bool
  | .sc a, .sc b => decide (a = b)
  | .sl a, .sl b => LT.beqs a b
  | _, _ => false
def LT.beqs : List LT → List LT → Bool
  | [], [] => true
  | a :: as, b :: bs => LT.beq a b && LT.beqs as bs
  | _, _ => false
end
abbrev Key := List Nat
def keyEq : Key → Key → Bool
  | [], [] => true
  | a :: as, b :: bs => Nat.beq a b && keyEq as bs
  | _, _ => false
/-- the name of what is read alone while a function runs -/
def dKey : Key := [4000000]
inductive M where
  | F | O (ms : List M)
  deriving Inhabited, Repr
mutual
def M.beq : M → M → Bool
  | .F, .F => true
  | .O a, .O b => M.beqs a b
  | _, _ => false
def M.beqs : List M → List M → Bool
  | [], [] => true
  | a :: az, b :: bs => M.beq a b && M.beqs az bs
  | _, _ => false
end
mutual
def M.canBe : M → M → Bool
  | _, .F => true
  | .O a, .O b => M.canBes a b
  | .F, .O _ => false
def M.canBes : List M → List M → Bool
  | [], [] => true
  | a :: az, b :: bs => M.canBe a b && M.canBes az bs
  | _, _ => false
end
abbrev Dep := Key × Nat
inductive St where
  | sc | nl | sn (deps : List Dep) | sb (k : Key) (n cv r off : Nat) | al (k : Key) (n : Nat) | dead
  deriving Inhabited, Repr
structure Leaf where
  st : St
  lt : LT
  d : T
  deriving Inhabited
inductive Ent where
  | one (l : Leaf) | agg (ls : List Leaf) | tup (es : List Ent)
  | ptr (k : Key) (n i off : Nat)
  | rp (deps : List Dep) (lts : List LT) (row : List T)
  | fn (f : FuncId) (caps : List Ent)
  | und | junk
  deriving Inhabited
inductive Ch where
  | box (ls : List Leaf) | row (es : List LT) (ms : List M) (rows : List (List T)) | fz (es : List LT) (rows : List (List T)) | gone
  | hob (m j : Nat) (ls : List Leaf)                                     -- a variable whose first leaves are out ('j': the count of the variable that they are)
  | hol (es : List LT) (ms : List M) (rows : List (List T)) (r j : Nat)  -- rows of which one is out
  deriving Inhabited
structure KE where
  ch : Ch
  idv : Nat
  cv : Nat
  deriving Inhabited
structure S where
  s : Nat → Ent
  k : Key → KE

/-! results -/
inductive R3 (α : Type) where
  | ok (a : α) | out | bad
  deriving Inhabited

/-- arguments as the one who is called sees them -/
inductive AL where
  | sc (s : ST) (d : T) | fz (es : List LT) (rows : List (List T)) | own (es : List LT) (ms : List M) (rows : List (List T)) | nl (es : List LT)
  | dz (es : List LT) (rows : List (List T))   -- read alone, while the call runs
  deriving Inhabited
inductive Arg where
  | one (l : AL) | agg (ls : List AL)
  | rpt (lts : List LT) (row : List T)   -- a pointer to what is read alone
  | bx (ls : List AL)                    -- a pointer to a variable that is handed over, with what it owns
  | fn (f : FuncId) (caps : List Arg)
  deriving Inhabited
/-- what comes back: a leaf; 'par i j': what parameter i's leaf j owns still; 'dz': it hangs on what was read -/
inductive RL where
  | sc (s : ST) (d : T) | fz (es : List LT) (rows : List (List T)) | own (k : Key) (es : List LT) (ms : List M) (rows : List (List T)) | nl (es : List LT)
  | par (i j : Nat) | dz (es : List LT) (rows : List (List T))
  deriving Inhabited
inductive RE where
  | one (l : RL) | agg (ls : List RL)
  | bx (k : Key) (ls : List RL)   -- a pointer to a new variable
  | none
  deriving Inhabited
/-- a result: the results' entries; what each parameter's leaf that was owned holds now (none: it is gone); for a box its leaves -/
structure Ret where
  rs : List RE
  owns : List (List (Option (List LT × List M × List (List T))))
  bxs : List (Option (List RL))      -- for each parameter that is a variable handed over: what it holds now
  deriving Inhabited
/-! local programs -/
inductive Prog where
  | ret | fail | out
  | chk (c : Bool) (p : Prog)
  | lim (c : Bool) (p : Prog)
  | br (c : Bool) (p q : Prog)
  | getS (t : Nat) (k : Ent → Prog)
  | setS (t : Nat) (e : Ent) (p : Prog)
  | getK (k : Key) (c : KE → Prog)
  | setK (k : Key) (e : KE) (p : Prog)
  | call (f : FuncId) (args : List Arg) (k : Ret → Prog)

structure Tr where
  rs : List Nat := []
  ws : List Nat := []
  rk : List Key := []
  wk : List Key := []
  deriving Inhabited

def S.setS (σ : S) (t : Nat) (e : Ent) : S := { σ with s := fun u => cond (Nat.beq u t) e (σ.s u) }
def S.setK (σ : S) (k : Key) (e : KE) : S := { σ with k := fun u => cond (keyEq u k) e (σ.k u) }

def R3.bind {α β : Type} (r : R3 α) (k : α → R3 β) : R3 β := match r with | .ok a => k a | _ => .bad
variable (cf : FuncId → List Arg → R3 Ret)
def Prog.run {α : Type} : Prog → S → Tr → (S → Tr → R3 α) → R3 α
  | .ret, σ, tr, K => K σ tr
  | .fail, _, _, _ => .bad
  | .out, _, _, _ => .bad
  | .chk c p, σ, tr, K => cond c (p.run σ tr K) .bad
  | .lim _ p, σ, tr, K => p.run σ tr K
  | .br c p q, σ, tr, K => cond c (p.run σ tr K) (q.run σ tr K)
  | .getS t k, σ, tr, K => (k (σ.s t)).run σ { tr with rs := t :: tr.rs } K
  | .setS t e p, σ, tr, K => p.run (σ.setS t e) { tr with ws := t :: tr.ws } K
  | .getK k c, σ, tr, K => (c (σ.k k)).run σ { tr with rk := k :: tr.rk } K
  | .setK k e p, σ, tr, K => p.run (σ.setK k e) { tr with wk := k :: tr.wk } K
  | .call f args k, σ, tr, K => (cf f args).bind fun r => (k r).run σ tr K

/-! what E is told of the program -/
inductive TK where
  | sc (s : ST) | slice (elem : TypeId) | struct (fs : List (Nat × TypeId)) | array (n : Nat) (elem : TypeId) | ptr (elem : TypeId) | other
  deriving Inhabited
structure TI where
  kind : TK
  lts : List LT
  bytes : Nat
  flat : Bool
  deriving Inhabited
/-- how an argument is handed on: read alone while the call runs, never written again, or with what it owns -/
inductive PM where
  | R | F | O (ms : List M)   -- with modes: what is owned is made to have these
  deriving Inhabited, Repr
structure Sig where
  pms : List (List PM)      -- for each parameter, for each of its leaves (of a pointer: of the leaves behind it)
  deriving Inhabited
structure Ctx where
  ty : TypeId → Option TI
  fn : FuncId → Option Func
  sig : FuncId → Sig
  own : FuncId → Nat → Bool -- whether a nil slice that is moved to this slot is a chunk (no rows)
  ms : FuncId → Nat → List M  -- the modes of rows that are born at this slot ([]: all F)
  cut : FuncId → Nat → Nat -- the slice operation that writes this slot: 0 reads, 1 cuts what is owned, 2 reads what is never written again
  cast : FuncId → Nat → List M -- what the leaves of a call's result are from now on
  box : FuncId → Nat → List M -- what the leaves of a variable are from its birth
  rg : FuncId → Nat → List (Nat × Nat) -- what is never written again from a region on: slots, leaves
  ret : FuncId → Bool -- whether slices that are handed back are never written again
  can : FuncId → Nat → List M -- what the leaves of a result (of a variable that was handed over: 1000 + i) are in the end

def zeroD : LT → T
  | .sc (.int _) => .i 0 | .sc .bool => .b false | .sc .str => .s .empty | .sc .any => .x .nilIface | .sl _ => .l []
def zeroLeaf : LT → Leaf
  | .sl es => ⟨.nl, .sl es, .l []⟩
  | .sc .any => ⟨.dead, .sc .any, .l []⟩
  | lt => ⟨.sc, lt, zeroD lt⟩
def litLeaf : Value → Option Leaf
  | .bool b => some ⟨.sc, .sc .bool, .b b⟩
  | .int k n => if k.min ≤ n ∧ n ≤ k.max then some ⟨.sc, .sc (.int k), .i n⟩ else none
  | .string s => if s.size < 9223372036854775808 then some ⟨.sc, .sc .str, .s s⟩ else none
  | .slice none 0 0 => some ⟨.nl, .sl [], .l []⟩
  | _ => none

def dflt : T := .i 0
def leafOf (deps : List Dep) (lt : LT) (d : T) : Leaf :=
  match lt with
  | .sl _ => ⟨.sn deps, lt, d⟩
  | _ => ⟨.sc, lt, d⟩
def isAggK : TK → Bool
  | .struct _ | .array _ _ => true
  | _ => false
def mkEnt (agg : Bool) (ls : List Leaf) : Ent :=
  cond agg (.agg ls) (match ls with | [l] => .one l | _ => .junk)
def leavesOf : Ent → Option (List Leaf)
  | .one l => some [l]
  | .agg ls => some ls
  | _ => none

section ops
variable (Γ : Ctx)

def ofOpt {α : Type} (o : Option α) (k : α → Prog) : Prog := match o with | some a => k a | none => .fail
def tyOf (t : TypeId) (k : TI → Prog) : Prog := ofOpt (Γ.ty t) k

def rd (x : Operand) (k : Ent → Prog) : Prog :=
  match x with
  | .tmp t => .getS t k
  | .const (.pointer none) => k .junk
  | .const (.agg cs) => ofOpt (cs.toList.mapM litLeaf) fun ls => k (.agg ls)
  | .const v => ofOpt (litLeaf v) fun l => k (.one l)
  | .func f => k (.fn f [])
  | .global _ => .fail

def depsOk (ds : List Dep) (p : Prog) : Prog :=
  match ds with
  | [] => p
  | (k, n) :: ds => .getK k fun ke => .chk (Nat.beq ke.cv n) (depsOk ds p)

/-- a slice that is read: its elements' leaves, its rows, what it hangs on -/
def viewSl (l : Leaf) (k : List LT → List (List T) → List Dep → Prog) : Prog :=
  match l.lt, l.st with
  | .sl es, .nl => k es [] []
  | .sl es, .sn deps => depsOk deps (k es l.d.rows deps)
  | .sl es, .sb key _ cv _ _ => depsOk [(key, cv)] (k es l.d.rows [(key, cv)])
  | .sl _, .al key n => .getK key fun ke => .chk (Nat.beq ke.idv n) (match ke.ch with
      | .row es _ rows => k es rows [(key, ke.cv)]
      | .fz es rows => k es rows []
      | _ => .fail)
  | _, _ => .fail

def scal (e : Ent) (k : ST → T → Prog) : Prog :=
  match e with
  | .one ⟨.sc, .sc s, d⟩ => k s d
  | _ => .fail
def one1 (e : Ent) (k : Leaf → Prog) : Prog := match e with | .one l => k l | _ => .fail

def noOB (ms : List M) : Bool := ms.all fun m => match m with | .F => true | .O _ => false
/-- what goes into rows ('es': the rows' leaf types, 'ms': their modes): it is frozen, or what it owns moves there -/
def absorb : List LT → List M → List Leaf → (List T → Prog) → Prog
  | [], _, [], k => k []
  | e :: es, ms, l :: ls, k =>
    match e, l.lt, l.st with
    | .sc s, .sc s', .sc => if s = s' then absorb es ms.tail ls fun ds => k (l.d :: ds) else .fail
    | .sl es', _, .nl => .chk (match ms.headD .F with | .F => true | .O _ => !es'.isEmpty) (absorb es ms.tail ls fun ds => k (.l [] :: ds))
    | .sl _, lt, .sn [] => (match ms.headD .F with
        | .F => cond (LT.beq e lt) (absorb es ms.tail ls fun ds => k (l.d :: ds)) .fail
        | .O _ => .fail)
    | .sl es', _, .al key n => .getK key fun ke => .chk (Nat.beq ke.idv n) (match ke.ch with
        | .fz es'' rows => (match ms.headD .F with
            | .F => cond (LT.beqs es' es'') (absorb es ms.tail ls fun ds => k (.l rows :: ds)) .fail
            | .O _ => .fail)
        | .row es'' ms'' rows => (match ms.headD .F with
            | .F => cond (LT.beqs es' es'') (.setK key { ke with ch := .fz es'' rows } (absorb es ms.tail ls fun ds => k (.l rows :: ds))) .fail
            | .O ms' => cond (LT.beqs es' es'' && M.beqs ms' ms'') (.setK key ⟨.gone, ke.idv + 1, ke.cv + 1⟩ (absorb es ms.tail ls fun ds => k (.l rows :: ds))) .fail)
        | _ => .fail)
    | _, _, _ => .fail
  | _, _, _, _ => .fail

def mkRow (dst : Nat) (es : List LT) (ms : List M) (rows : List (List T)) : Prog :=
  .getK [dst + 2000000] fun ke => .setK [dst + 2000000] ⟨.row es ms rows, ke.idv + 1, ke.cv + 1⟩ (.setS dst (.one ⟨.al [dst + 2000000] (ke.idv + 1), .sl es, .l []⟩) .ret)
/-- a chunk is read alone from now on -/
def freezeK (key : Key) (k : Prog) : Prog := .getK key fun ke => match ke.ch with
  | .row es _ rows => .setK key { ke with ch := .fz es rows } k
  | _ => .fail
def mkRowF (fz : Bool) (dst : Nat) (es : List LT) (ms : List M) (rows : List (List T)) : Prog :=
  .getK [dst + 2000000] fun ke => .setK [dst + 2000000] ⟨.row es ms rows, ke.idv + 1, ke.cv + 1⟩ (.setS dst (.one ⟨.al [dst + 2000000] (ke.idv + 1), .sl es, .l []⟩) (cond fz (freezeK [dst + 2000000] .ret) .ret))
def mkBox (dst : Nat) (ls : List Leaf) : Prog :=
  .getK [dst + 2000000] fun ke => .setK [dst + 2000000] ⟨.box ls, ke.idv + 1, ke.cv + 1⟩ (.setS dst (.ptr [dst + 2000000] (ke.idv + 1) 0 0) .ret)

def modeLeaf (key : Key) (n cv r off : Nat) (lt : LT) (m : M) (d : T) : Leaf :=
  match lt, m with
  | .sl _, .O _ => ⟨.sb key n cv r off, lt, d⟩
  | .sl _, _ => ⟨.sn [], lt, d⟩
  | _, _ => ⟨.sc, lt, d⟩
def rowLeaves (key : Key) (n cv r off size : Nat) (es : List LT) (ms : List M) (row : List T) : List Leaf :=
  (List.range size).map fun j => modeLeaf key n cv r (off + j) (es.getD (off + j) default) (ms.getD (off + j) .F) (row.getD (off + j) dflt)
def frozenLeaves (deps : List Dep) (size : Nat) (es : List LT) (row : List T) : List Leaf :=
  (List.range size).map fun j => leafOf deps (es.getD j default) (row.getD j dflt)

def setMany (row : List T) (off : Nat) : List T → List T
  | [] => row
  | d :: ds => setMany (row.set off d) (off + 1) ds
def bytesRows (s : ByteArray) : List (List T) := s.data.toList.map fun b => [T.i b.toNat]
def rowsBytes (rows : List (List T)) : ByteArray := ⟨(rows.map fun r => UInt8.ofNat (r.getD 0 dflt).int.toNat).toArray⟩

def bvBack (k : IntKind) (r : BitVec k.bits) : T := .i (k.wrap r.toNat)
def binInt (op : BinOp) (k : IntKind) (x y : Int) (K : ST → T → Prog) : Prog :=
  match op with
  | .add => K (.int k) (.i (k.wrap (x + y)))
  | .sub => K (.int k) (.i (k.wrap (x - y)))
  | .mul => K (.int k) (.i (k.wrap (x * y)))
  | .quo => .chk (!decide (y = 0)) (K (.int k) (.i (k.wrap (x.tdiv y))))
  | .rem => .chk (!decide (y = 0)) (K (.int k) (.i (x.tmod y)))
  | .and => K (.int k) (bvBack k (BitVec.ofInt k.bits x &&& BitVec.ofInt k.bits y))
  | .or => K (.int k) (bvBack k (BitVec.ofInt k.bits x ||| BitVec.ofInt k.bits y))
  | .xor => K (.int k) (bvBack k (BitVec.ofInt k.bits x ^^^ BitVec.ofInt k.bits y))
  | .andNot => K (.int k) (bvBack k (BitVec.ofInt k.bits x &&& ~~~ BitVec.ofInt k.bits y))
  | .eql => K .bool (.b (x == y))
  | .neq => K .bool (.b (x != y))
  | .lss => K .bool (.b (decide (x < y)))
  | .leq => K .bool (.b (decide (x ≤ y)))
  | .gtr => K .bool (.b (decide (x > y)))
  | .geq => K .bool (.b (decide (x ≥ y)))
  | _ => .fail
def binStr (op : BinOp) (x y : ByteArray) (K : ST → T → Prog) : Prog :=
  let eq := x.toList == y.toList
  let lt := Op.bytesLess x.toList y.toList
  match op with
  | .add => .chk (decide (x.size + y.size < 9223372036854775808)) (K .str (.s (x ++ y)))
  | .eql => K .bool (.b eq)
  | .neq => K .bool (.b (!eq))
  | .lss => K .bool (.b lt)
  | .leq => K .bool (.b (lt || eq))
  | .gtr => K .bool (.b (!(lt || eq)))
  | .geq => K .bool (.b (!lt))
  | _ => .fail
/-- equality of leaves that hold scalars -/
def eqSc : ST → T → T → Option Bool
  | .int _, x, y => some (x.int == y.int)
  | .bool, x, y => some (x.bool == y.bool)
  | .str, x, y => some (x.str.toList == y.str.toList)
  | .any, _, _ => none
def eqLeaves : List LT → List Leaf → List Leaf → Option Bool
  | [], [], [] => some true
  | .sc c :: lts, ⟨.sc, .sc a, x⟩ :: ls, ⟨.sc, .sc b, y⟩ :: rs =>
    if c = a ∧ c = b then
      match eqSc c x y, eqLeaves lts ls rs with
      | some b, some r => some (b && r)
      | _, _ => none
    else none
  | _, _, _ => none
def isBoolK : TK → Bool | .sc .bool => true | _ => false
def binE (ti : TI) (op : BinOp) (x y : Ent) (K : ST → T → Prog) : Prog :=
  match x, y with
  | .one ⟨.sc, .sc (.int k), a⟩, .one ⟨.sc, .sc (.int k'), b⟩ =>
    match op with
    | .shl => .chk (decide (0 ≤ b.int)) (K (.int k) (.i (k.wrap (a.int * 2 ^ (min b.int.toNat k.bits)))))
    | .shr => .chk (decide (0 ≤ b.int)) (K (.int k) (.i (a.int.fdiv (2 ^ (min b.int.toNat k.bits)))))
    | _ => if k = k' then binInt op k a.int b.int K else .fail
  | .one ⟨.sc, .sc .str, a⟩, .one ⟨.sc, .sc .str, b⟩ => binStr op a.str b.str K
  | .one ⟨.sc, .sc .bool, a⟩, .one ⟨.sc, .sc .bool, b⟩ =>
    cond (isBoolK ti.kind) (match op with
    | .eql => K .bool (.b (a.bool == b.bool))
    | .neq => K .bool (.b (!(a.bool == b.bool)))
    | _ => .fail) .fail
  | .agg ls, .agg rs =>
    cond ti.flat (match op with
    | .eql => ofOpt (eqLeaves ti.lts ls rs) fun r => K .bool (.b r)
    | .neq => ofOpt (eqLeaves ti.lts ls rs) fun r => K .bool (.b (!r))
    | _ => .fail) .fail
  | _, _ => .fail

def put (dst : Option Nat) (e : Ent) : Prog := match dst with | some d => .setS d e .ret | none => .ret
def msOk : List LT → List M → Bool
  | [], _ => true
  | e :: es, ms => (match e, ms.headD .F with | .sl es', .O _ => !es'.isEmpty | _, _ => true) && msOk es ms.tail
def modesOf (ms : Nat → List M) (d : Nat) (es : List LT) : List M := match ms d with | [] => es.map fun _ => .F | l => l
def putNil (own : Nat → Bool) (ms : Nat → List M) (dst : Option Nat) (e : Ent) : Prog :=
  match dst, e with
  | some d0, .one ⟨.nl, .sl es, _⟩ => cond (own d0 && !es.isEmpty) (mkRow d0 es (modesOf ms d0 es) []) (put dst e)
  | _, _ => put dst e
def putSc (dst : Option Nat) (s : ST) (d : T) : Prog := put dst (.one ⟨.sc, .sc s, d⟩)

def maxCells : Nat := 140737488355328    -- 2 ^ 47
def maxRow : Nat := 1099511627776    -- 2 ^ 40


def flatLs (es : List LT) : Bool := es.all fun t => match t with | .sc _ => true | _ => false
/-! calls: what is handed on -/
/-- a variable's name at the one who is called: [parameter, bxJ] -/
def bxJ : Nat := 999999
structure Lend where
  key : Key
  idv : Nat
  es : List LT
  i : Nat
  j : Nat
structure Pass where
  args : List Arg
  lends : List Lend
  deps : List Dep

def passLeaf (i j : Nat) (m : PM) (l : Leaf) (c : Pass) (k : AL → Pass → Prog) : Prog :=
  match l.lt, l.st with
  | .sc s, .sc => k (.sc s l.d) c
  | .sl es, .nl => (match m with
    | .R => k (.dz es []) c
    | .F => k (.fz es []) c
    | .O _ => k (.nl es) c)
  | .sl es, .sn deps => (match m with
    | .R => depsOk deps (k (.dz es l.d.rows) { c with deps := deps ++ c.deps })
    | .F => (match deps with | [] => k (.fz es l.d.rows) c | _ => .fail)
    | .O _ => .fail)
  | .sl es, .sb key _ cv _ _ => (match m with
    | .R => depsOk [(key, cv)] (k (.dz es l.d.rows) { c with deps := (key, cv) :: c.deps })
    | _ => .fail)
  | .sl es0, .al key n => .getK key fun ke => .chk (Nat.beq ke.idv n) (match ke.ch, m with
    | .fz es rows, .R => .chk (LT.beqs es0 es) (k (.dz es rows) c)
    | .fz es rows, .F => .chk (LT.beqs es0 es) (k (.fz es rows) c)
    | .row es _ rows, .R => .chk (LT.beqs es0 es) (k (.dz es rows) { c with deps := (key, ke.cv) :: c.deps })
    | .row es ms rows, .O _ => .chk (LT.beqs es0 es && Nat.blt j bxJ) (k (.own es ms rows) { c with lends := ⟨key, n, es, i, j⟩ :: c.lends })
    | _, _ => .fail)
  | _, _ => .fail
def passLeaves (i : Nat) : Nat → List PM → List Leaf → Pass → (List AL → Pass → Prog) → Prog
  | _, _, [], c, k => k [] c
  | j, ms, l :: ls, c, k => passLeaf i j (ms.headD .R) l c fun a c => passLeaves i (j + 1) (ms.drop 1) ls c fun as c => k (a :: as) c
/-- leaves that are read alone -/
def readLeaves : List Leaf → Pass → (List LT → List T → Pass → Prog) → Prog
  | [], c, k => k [] [] c
  | l :: ls, c, k =>
    match l.lt, l.st with
    | .sc s, .sc => readLeaves ls c fun lts ds c => k (.sc s :: lts) (l.d :: ds) c
    | _, _ => viewSl l fun es rows deps => readLeaves ls { c with deps := deps ++ c.deps } fun lts ds c => k (.sl es :: lts) (.l rows :: ds) c
def passPtr (sz : Option Nat) (e : Ent) (c : Pass) (k : Arg → Pass → Prog) : Prog :=
  let cutT {α : Type} (l : List α) : List α := match sz with | some n => l.take n | none => l
  match e with
  | .ptr key n r off => .getK key fun ke => .chk (Nat.beq ke.idv n) (match ke.ch with
    | .box ls => readLeaves (cutT (ls.drop off)) { c with deps := (key, ke.cv) :: c.deps } fun lts ds c => k (.rpt lts ds) c
    | .row es _ rows => .chk (decide (r < rows.length)) (k (.rpt (cutT (es.drop off)) (cutT ((rows.getD r []).drop off))) { c with deps := (key, ke.cv) :: c.deps })
    | .fz es rows => .chk (decide (r < rows.length)) (k (.rpt (cutT (es.drop off)) (cutT ((rows.getD r []).drop off))) c)
    | _ => .fail)
  | .rp deps lts row => depsOk deps (k (.rpt (cutT lts) (cutT row)) { c with deps := deps ++ c.deps })
  | _ => .fail
/-! what is taken out of rows or of a variable for a time -/
def holB (key : Key) : Key := 3000000 :: key
def holC (key : Key) (j : Nat) : Key := 3000001 :: j :: key
def hobB (key : Key) : Key := 3000002 :: key
def openLeaves (key : Key) : Nat → List LT → List M → List T → (List Leaf → Prog) → Prog
  | _, [], _, _, k => k []
  | j, e :: es, ms, ds, k =>
    let d := ds.headD dflt
    match e, ms.headD .F with
    | .sl es', .O ms' => .getK (holC key j) fun ke => .setK (holC key j) ⟨.row es' ms' d.rows, ke.idv + 1, ke.cv + 1⟩
        (openLeaves key (j + 1) es ms.tail ds.tail fun ls => k (⟨.al (holC key j) (ke.idv + 1), .sl es', .l []⟩ :: ls))
    | .sl es', .F => openLeaves key (j + 1) es ms.tail ds.tail fun ls => k (⟨.sn [], .sl es', d⟩ :: ls)
    | .sc s, _ => openLeaves key (j + 1) es ms.tail ds.tail fun ls => k (⟨.sc, .sc s, d⟩ :: ls)
/-- a row becomes a variable of its own; 'k': how many times that variable was made -/
def openRow (key : Key) (r : Nat) (k : Nat → List Leaf → Prog) : Prog :=
  .getK key fun ke => match ke.ch with
    | .row es ms rows => .chk (decide (r < rows.length)) (.getK (holB key) fun kb => .setK key ⟨.hol es ms rows r (kb.idv + 1), ke.idv, ke.cv + 1⟩ (openLeaves key 0 es ms (rows.getD r []) fun ls =>
        .setK (holB key) ⟨.box ls, kb.idv + 1, kb.cv + 1⟩ (k (kb.idv + 1) ls)))
    | _ => .fail
/-- 'p' comes behind the leaves that are put back -/
def closeEnd (key : Key) (es0 : List LT) (ms0 : List M) (ds : List T) (p : Prog) : Prog :=
  .getK key fun ke => .getK (holB key) fun kb => match ke.ch, kb.ch with
    | .hol es ms rows r j, .box ls => .chk (Nat.beq kb.idv j && Nat.beq ls.length es.length && LT.beqs es0 es && M.beqs ms0 ms) (.setK (holB key) ⟨.gone, kb.idv + 1, kb.cv + 1⟩ (.setK key ⟨.row es ms (rows.set r ds), ke.idv, ke.cv + 1⟩ p))
    | _, _ => .fail
def closeRow (key : Key) (p : Prog) : Prog :=
  .getK key fun ke => .getK (holB key) fun kb => match ke.ch, kb.ch with
    | .hol es ms _ _ j, .box ls => .chk (Nat.beq kb.idv j) (absorb es ms ls fun ds => closeEnd key es ms ds p)
    | _, _ => .fail
/-- the first leaves of a variable become one of their own -/
def openBox (key : Key) (m : Nat) (k : Nat → Prog) : Prog :=
  .getK key fun ke => match ke.ch with
    | .box ls => .chk (Nat.ble m ls.length) (.getK (hobB key) fun kb => .setK key ⟨.hob m (kb.idv + 1) (ls.drop m), ke.idv, ke.cv + 1⟩ (.setK (hobB key) ⟨.box (ls.take m), kb.idv + 1, kb.cv + 1⟩ (k (kb.idv + 1))))
    | _ => .fail
def closeBox (key : Key) (p : Prog) : Prog :=
  .getK key fun ke => .getK (hobB key) fun kb => match ke.ch, kb.ch with
    | .hob m j rest, .box ls => .chk (Nat.beq ls.length m && Nat.beq kb.idv j) (.setK (hobB key) ⟨.gone, kb.idv + 1, kb.cv + 1⟩ (.setK key ⟨.box (ls ++ rest), ke.idv, ke.cv + 1⟩ p))
    | _, _ => .fail
def closeAll : List (Bool × Key) → Prog → Prog
  | [], p => p
  | (b, k) :: os, p => cond b (closeRow k (closeAll os p)) (closeBox k (closeAll os p))
/-- what is ahead of handing on: what is read is held fast; what owns is taken out of where it lies; nil becomes rows ('nk': their name) -/
def prepLeaf (nk : Key) (m : PM) (l : Leaf) (os : List (Bool × Key)) (k : Leaf → List (Bool × Key) → Prog) : Prog :=
  match m with
  | .R => k l os
  | .F => (match l.st with
    | .al key n => .getK key fun ke => .chk (Nat.beq ke.idv n) (match ke.ch with
      | .row es _ rows => .setK key { ke with ch := .fz es rows } (k ⟨.sn [], .sl es, .l rows⟩ os)
      | .fz es rows => k ⟨.sn [], .sl es, .l rows⟩ os
      | _ => .fail)
    | _ => k l os)
  | .O ms => (match l.st with
    | .nl => (match ms, l.lt with
      | [], _ => k l os
      | ms, .sl es => .chk (!es.isEmpty) (.getK nk fun ke => .setK nk ⟨.row es ms [], ke.idv + 1, ke.cv + 1⟩ (k ⟨.al nk (ke.idv + 1), .sl es, .l []⟩ os))
      | _, _ => .fail)
    | .sb key n cv r off => .getK key fun ke => .chk (Nat.beq ke.idv n && Nat.beq ke.cv cv) (openRow key r fun _ ls => .chk (Nat.blt off ls.length) (k (ls.getD off default) ((true, key) :: os)))
    | .al key n => (match ms with
      | [] => k l os
      | ms => .getK key fun ke => .chk (Nat.beq ke.idv n) (match ke.ch with
        | .row es ms0 rows => cond (M.beqs ms0 ms) (k l os) (.chk (M.canBes ms0 ms) (.setK key ⟨.row es ms rows, ke.idv, ke.cv + 1⟩ (k l os)))
        | _ => k l os))
    | _ => k l os)
def prepLeaves (nk : Key) : Nat → List PM → List Leaf → List (Bool × Key) → (List Leaf → List (Bool × Key) → Prog) → Prog
  | _, _, [], os, k => k [] os
  | j, ms, l :: ls, os, k => prepLeaf (5000000 :: j :: nk) (ms.headD .R) l os fun l os => prepLeaves nk (j + 1) (ms.drop 1) ls os fun ls os => k (l :: ls) os
def isO : PM → Bool | .O _ => true | _ => false
def anyO (pm : List PM) : Bool := pm.any isO
/-- leaves of a variable that must be made ready -/
def needs : List PM → List Leaf → Bool
  | m :: pm, l :: ls => (match m, l.st with
    | .O (_ :: _), .nl => true
    | .O (_ :: _), .al _ _ => true
    | .F, .al _ _ => true
    | _, _ => false) || needs pm ls
  | _, _ => false
def prepBox (key : Key) (n : Nat) (pm : List PM) (os : List (Bool × Key)) (k : List (Bool × Key) → Prog) : Prog :=
  .getK key fun ke => .chk (Nat.beq ke.idv n) <| match ke.ch with
    | .box ls => cond (needs pm ls) (prepLeaves key 0 pm ls os fun ls' os => .getK key fun ke => .chk (Nat.beq ke.idv n) (match ke.ch with
      | .box ls0 => .chk (Nat.beq ls'.length ls0.length) (.setK key ⟨.box ls', ke.idv, ke.cv + 1⟩ (k os))
      | _ => .fail)) (k os)
    | _ => k os
def prepEnt (nk : Key) (pm : List PM) (e : Ent) (os : List (Bool × Key)) (k : Ent → List (Bool × Key) → Prog) : Prog :=
  match e with
  | .one l => prepLeaf nk (pm.headD .R) l os fun l os => k (.one l) os
  | .agg ls => prepLeaves nk 0 pm ls os fun ls os => k (.agg ls) os
  | .ptr key n r off => cond (anyO pm) (.getK key fun ke => .chk (Nat.beq ke.idv n && Nat.beq off 0) (match ke.ch with
      | .box ls => cond (Nat.blt pm.length ls.length) (openBox key pm.length fun m => prepBox (hobB key) m pm ((false, key) :: os) (k (.ptr (hobB key) m 0 0)))
          (prepBox key n pm os (k e))
      | .row es _ _ => .chk (Nat.beq pm.length es.length) (openRow key r fun m _ => prepBox (holB key) m pm ((true, key) :: os) (k (.ptr (holB key) m 0 0)))
      | _ => .fail)) (k e os)
  | e => k e os
def prepAll (d : Nat) : Nat → List (List PM) → List Ent → List (Bool × Key) → (List Ent → List (Bool × Key) → Prog) → Prog
  | _, _, [], os, k => k [] os
  | i, pms, e :: es, os, k => prepEnt [d + 2000000, 700 + i] (pms.headD []) e os fun e os => prepAll d (i + 1) (pms.drop 1) es os fun es os => k (e :: es) os
/-- a leaf of a variable that is handed over: what it owns goes along -/
def passLeafB (i j : Nat) (l : Leaf) (c : Pass) (k : AL → Pass → Prog) : Prog :=
  match l.lt, l.st with
  | .sl _, .al key _ => .getK key fun ke => match ke.ch with
    | .row _ _ _ => passLeaf i j (.O []) l c k
    | _ => passLeaf i j .F l c k
  | .sl _, .nl => passLeaf i j (.O []) l c k
  | _, _ => passLeaf i j .F l c k
def passLeavesB (i : Nat) : Nat → List Leaf → Pass → (List AL → Pass → Prog) → Prog
  | _, [], c, k => k [] c
  | j, l :: ls, c, k => passLeafB i j l c fun a c => passLeavesB i (j + 1) ls c fun as c => k (a :: as) c
def passBox (i sz : Nat) (e : Ent) (c : Pass) (k : Arg → Pass → Prog) : Prog :=
  match e with
  | .ptr key n _ off => .getK key fun ke => .chk (Nat.beq ke.idv n) (match ke.ch with
    | .box ls => .chk (Nat.beq off 0 && Nat.beq ls.length sz && Nat.ble sz 1000) (passLeavesB i 0 ls { c with lends := ⟨key, n, [], i, bxJ⟩ :: c.lends } fun as c => k (.bx as) c)
    | _ => .fail)
  | _ => .fail
def passCaps : List Ent → Pass → (List Arg → Pass → Prog) → Prog   -- what a closure caught: read alone
  | [], c, k => k [] c
  | e :: es, c, k => passPtr none e c fun a c => passCaps es c fun as c => k (a :: as) c
def passOne (i : Nat) (pm : List PM) (e : Ent) (c : Pass) (k : Arg → Pass → Prog) : Prog :=
  match e with
  | .one l => passLeaf i 0 (pm.headD .R) l c fun a c => k (.one a) c
  | .agg ls => passLeaves i 0 pm ls c fun as c => k (.agg as) c
  | .fn f caps => passCaps caps c fun as c => k (.fn f as) c
  | e => cond (anyO pm) (passBox i pm.length e c k) (passPtr (cond pm.isEmpty none (some pm.length)) e c k)
def passAll (pms : List (List PM)) : Nat → List Ent → Pass → (List Arg → Pass → Prog) → Prog
  | _, [], c, k => k [] c
  | i, e :: es, c, k => passOne i (pms.getD i []) e c fun a c => passAll pms (i + 1) es c fun as c => k (a :: as) c

/-- lent keys unlike each other, and nothing that is read hangs on one -/
def apartOk (deps : List Dep) : List Lend → Bool
  | [] => true
  | x :: xs => !(xs.any fun y => keyEq x.key y.key || (Nat.beq x.i y.i && Nat.beq x.j y.j)) && !(deps.any fun d => keyEq x.key d.1) && apartOk deps xs

def findLend (i j : Nat) : List Lend → Option Lend
  | [] => none
  | l :: ls => cond (Nat.beq l.i i && Nat.beq l.j j) (some l) (findLend i j ls)
def ownOf (r : Ret) (i j : Nat) : Option (List LT × List M × List (List T)) := (r.owns.getD i []).getD j none

/-- behind the call: what was lent comes back; 'nd': nothing that was read hangs on what is owned -/
def bxOf (r : Ret) (i : Nat) : Option (List RL) := r.bxs.getD i none
def deadL (l : Leaf) : Leaf := { l with st := .dead, d := .l [] }
def giveBack (r : Ret) : List Lend → Prog → Prog
  | [], p => p
  | l :: ls, p => .getK l.key fun ke => cond (Nat.beq l.j bxJ)
    (match ke.ch with
    | .box old => (match bxOf r l.i with
      | some rls => .chk (Nat.beq rls.length old.length) (.setK l.key ⟨.box (old.map deadL), ke.idv, ke.cv + 1⟩ (giveBack r ls p))
      | none => .fail)
    | _ => .fail)
    (match ownOf r l.i l.j with
    | some (es, ms, rows) => .chk (LT.beqs l.es es) (.setK l.key ⟨.row es ms rows, ke.idv, ke.cv + 1⟩ (giveBack r ls p))
    | none => .setK l.key ⟨.gone, ke.idv + 1, ke.cv + 1⟩ (giveBack r ls p))

/-- a leaf that comes back; 'key': the name of a chunk that is new -/
def backLeaf (c : Pass) (key : Key) (l : RL) (k : Leaf → Prog) : Prog :=
  match l with
  | .sc s d => k ⟨.sc, .sc s, d⟩
  | .fz es rows => k ⟨.sn [], .sl es, .l rows⟩
  | .dz es rows => k ⟨.sn c.deps, .sl es, .l rows⟩
  | .nl es => k ⟨.nl, .sl es, .l []⟩
  | .own _ es ms rows => .getK key fun ke => .setK key ⟨.row es ms rows, ke.idv + 1, ke.cv + 1⟩ (k ⟨.al key (ke.idv + 1), .sl es, .l []⟩)
  | .par i j => ofOpt (findLend i j c.lends) fun l => k ⟨.al l.key l.idv, .sl l.es, .l []⟩
def backLeaves (c : Pass) (dst q : Nat) : Nat → List RL → (List Leaf → Prog) → Prog
  | _, [], k => k []
  | j, l :: ls, k => backLeaf c [dst + 2000000, q, j] l fun x => backLeaves c dst q (j + 1) ls fun xs => k (x :: xs)
def backRes (c : Pass) (dst : Nat) : Nat → List RE → (List Ent → Prog) → Prog
  | _, [], k => k []
  | q, e :: es, k =>
    match e with
    | .one l => backLeaf c [dst + 2000000, q, 0] l fun x => backRes c dst (q + 1) es fun xs => k (.one x :: xs)
    | .agg ls => backLeaves c dst q 0 ls fun x => backRes c dst (q + 1) es fun xs => k (.agg x :: xs)
    | .bx _ ls => backLeaves c dst q 0 ls fun x => .chk (Nat.beq x.length ls.length && Nat.ble ls.length 1000) (.getK [dst + 2000000, q, bxJ] fun ke =>
        .setK [dst + 2000000, q, bxJ] ⟨.box x, ke.idv + 1, ke.cv + 1⟩ (backRes c dst (q + 1) es fun xs => k (.ptr [dst + 2000000, q, bxJ] (ke.idv + 1) 0 0 :: xs)))
    | _ => .fail
/-- what the variables hold that were handed over -/
def backBoxes (c : Pass) (dst : Nat) (r : Ret) : List Lend → Prog → Prog
  | [], p => p
  | l :: ls, p => cond (Nat.beq l.j bxJ)
    (match bxOf r l.i with
    | some rls => backLeaves c dst (1000 + l.i) 0 rls fun xs => .getK l.key fun ke => match ke.ch with
      | .box old => .chk (Nat.beq ke.idv l.idv && Nat.beq xs.length old.length) (.setK l.key ⟨.box xs, ke.idv, ke.cv + 1⟩ (backBoxes c dst r ls p))
      | _ => .fail
    | none => .fail)
    (backBoxes c dst r ls p)
/-- what a result's leaves are from now on: as what is handed on is made ready -/
def pmOf : M → PM | .F => .F | .O ms => .O ms
def castHead (nk : Key) (ms : List M) : List Ent → (List Ent → Prog) → Prog
  | [], k => k []
  | e :: es, k => match ms with
    | [] => k (e :: es)
    | ms => match e with
      | .one l => prepLeaf nk ((ms.map pmOf).headD .R) l [] fun l _ => k (.one l :: es)
      | .agg ls => prepLeaves nk 0 (ms.map pmOf) ls [] fun ls _ => k (.agg ls :: es)
      | e => k (e :: es)
def oneEnt (xs : List Ent) : Ent := match xs with | [x] => x | _ => .tup xs
def callStep (fr f : FuncId) (dst : Option Nat) (es : List Ent) : Prog :=
  .chk (Γ.fn f).isSome (prepAll (match dst with | some d => d | none => 2000000 + f) 0 (Γ.sig f).pms es [] fun es os => passAll (Γ.sig f).pms 0 es ⟨[], [], []⟩ fun args c =>
  .chk (apartOk c.deps c.lends) (.call f args fun r =>
    giveBack r c.lends (backBoxes c (match dst with | some d => d | none => 2000000 + f) r c.lends (match dst with
      | none => closeAll os .ret
      | some d => backRes c d 0 r.rs fun xs => closeAll os (castHead [d + 2000000, 600] (Γ.cast fr d) xs fun xs => .setS d (oneEnt xs) .ret)))))

def rdAll : List Operand → (List Ent → Prog) → Prog
  | [], k => k []
  | x :: xs, k => rd x fun e => rdAll xs fun es => k (e :: es)

def scOnly (es : List LT) : Bool := es.all fun l => match l with | .sc .any => false | _ => true
def partsOf (es : List LT) (ms : List M) : List (Nat × Operand) → (List (Nat × List T) → Prog) → Prog
  | [], k => k []
  | (i, x) :: ps, k => rd x fun e => ofOpt (leavesOf e) fun ls => absorb es ms ls fun ds => partsOf es ms ps fun r => k ((i, ds) :: r)
/-- each place once, one behind the other: rows of a literal -/
def fillRows (n : Nat) : List (Nat × List T) → List (List T) → Option (List (List T))
  | [], rows => some rows
  | (i, ds) :: ps, rows => if i < rows.length && ds.length == n then fillRows n ps (rows.set i ds) else none
mutual
def fullM : LT → M
  | .sc _ => .F
  | .sl es => .O (fullMs es)
def fullMs : List LT → List M
  | [] => []
  | e :: es => fullM e :: fullMs es
end
/-- modes of a literal's rows: as its first part owns -/
def leafModes : List LT → List Leaf → (List M → Prog) → Prog
  | e :: es, l :: ls, k => match l.st with
    | .al key _ => .getK key fun ke => (match ke.ch with
        | .row _ ms _ => leafModes es ls fun r => k (.O ms :: r)
        | _ => leafModes es ls fun r => k (.F :: r))
    | .nl => leafModes es ls fun r => k (fullM e :: r)
    | _ => leafModes es ls fun r => k (.F :: r)
  | es, _, k => k (es.map fun _ => .F)
def litModes (ms : List M) (es : List LT) (ps : List (Nat × Operand)) (k : List M → Prog) : Prog :=
  match ms, ps with
  | [], (_, x) :: _ => rd x fun e => ofOpt (leavesOf e) fun ls => leafModes es ls k
  | [], [] => k (es.map fun _ => .F)
  | ms, _ => k ms
def partLeaves : List (Nat × Operand) → (List (Nat × List Leaf) → Prog) → Prog
  | [], k => k []
  | (i, x) :: ps, k => rd x fun e => ofOpt (leavesOf e) fun ls => partLeaves ps fun r => k ((i, ls) :: r)
def fillLeaves (Γ : Ctx) (fs : List (Nat × TypeId)) : List (Nat × List Leaf) → List Leaf → Option (List Leaf)
  | [], acc => some acc
  | (i, ls) :: ps, acc => match fs[i]? with
    | some (off, ft) => match Γ.ty ft with
      | some tf => cond (Nat.beq ls.length tf.lts.length && Nat.ble (off + ls.length) acc.length) (fillLeaves Γ fs ps (acc.take off ++ ls ++ acc.drop (off + ls.length))) none
      | none => none
    | none => none
/-- a constant has no leaf type of its own: the variable's -/
def retype : List LT → List Leaf → List Leaf
  | lt :: lts, l :: ls => (match l.st, lt with | .nl, .sl _ => { l with lt := lt } | _, _ => l) :: retype lts ls
  | _, ls => ls

def oneOrFail (ls : List Leaf) : Ent := match ls with | [l] => .one l | _ => .junk
def retypeEnt (lts : List LT) : Ent → Ent
  | .one l => oneOrFail (retype lts [l])
  | .agg ls => .agg (retype lts ls)
  | e => e
/-- what is appended: copies of rows that own nothing, or rows that move -/
def appendSrc (esT : List LT) (msT : List M) (lx : Leaf) (k : List (List T) → List Dep → Prog) : Prog :=
  match lx.st, lx.lt with
  | .sc, .sc .str => .chk (LT.beqs esT [.sc (.int .u8)] && noOB msT) (k (bytesRows lx.d.str) [])
  | .nl, _ => k [] []
  | .al key n, _ => .getK key fun ke => .chk (Nat.beq ke.idv n) (match ke.ch with
      | .row es ms rows => .chk (LT.beqs esT es) (cond (noOB ms) (.chk (noOB msT) (k rows [(key, ke.cv)])) (.chk (M.canBes ms msT) (.setK key ⟨.row es msT rows, ke.idv, ke.cv + 1⟩ (.getK key fun ke => .setK key ⟨.gone, ke.idv + 1, ke.cv + 1⟩ (k rows [])))))
      | .fz es rows => .chk (LT.beqs esT es && noOB msT) (k rows [])
      | _ => .fail)
  | _, _ => viewSl lx fun es rows deps => .chk (LT.beqs esT es && noOB msT && (flatLs esT || deps.isEmpty)) (k rows deps)
def appendFin (dst : Nat) (esT : List LT) (ms : List M) (old new : List (List T)) : Prog :=
  .chk (Nat.ble esT.length 1000 && decide ((old.length + new.length) * esT.length ≤ maxRow)) (mkRow dst esT ms (old ++ new))
def appendTo (dst : Nat) (esT : List LT) (key : Key) (n : Nat) (lx : Leaf) : Prog :=
  .getK key fun ke => .chk (Nat.beq ke.idv n) (match ke.ch with
      | .row es ms _ => .chk (LT.beqs esT es) (appendSrc esT ms lx fun new deps => .chk (!(deps.any fun d => keyEq d.1 key)) (.getK key fun ke => .chk (Nat.beq ke.idv n) (match ke.ch with
          | .row es' ms' rows => .chk (LT.beqs esT es' && M.beqs ms ms') (.setK key ⟨.gone, ke.idv + 1, ke.cv + 1⟩ (appendFin dst esT ms rows new))
          | _ => .fail)))
      | _ => .fail)
def appendStep (msB : List M) (dst : Nat) (esT : List LT) (s x : Ent) : Prog :=
  one1 s fun ls => one1 x fun lx =>
  match ls.st with
  | .nl => (match msB, lx.st with
    | [], .al key _ => .getK key fun ke => (match ke.ch with
        | .row _ ms _ => appendSrc esT ms lx fun new _ => appendFin dst esT ms [] new
        | _ => appendSrc esT (esT.map fun _ => .F) lx fun new _ => appendFin dst esT (esT.map fun _ => .F) [] new)
    | [], _ => appendSrc esT (esT.map fun _ => .F) lx fun new _ => appendFin dst esT (esT.map fun _ => .F) [] new
    | msB, _ => appendSrc esT msB lx fun new _ => appendFin dst esT msB [] new)
  | .al key n => appendTo dst esT key n lx
  | .sb key n cv r off => .getK key fun ke => .chk (Nat.beq ke.idv n && Nat.beq ke.cv cv) (openRow key r fun _ ls => match (ls.getD off default).st with
      | .al key n => appendTo dst esT key n lx
      | _ => .fail)
  | _ => .fail

def isStrK : TK → Bool | .sc .str => true | _ => false
def isSliceK : TK → Bool | .slice _ => true | _ => false
def sliceBound (e : Option Ent) (d : Int) (k : Int → Prog) : Prog := match e with
    | none => k d
    | some e => scal e fun s t => match s with | .int _ => k t.int | _ => .fail
def sliceStep (ti : TI) (cut : Nat) (dst : Nat) (x : Ent) (lo hi : Option Ent) : Prog :=
  one1 x fun l =>
  match l.st, l.lt with
  | .sc, .sc .str =>
    let n : Int := l.d.str.size
    .chk (isStrK ti.kind) <| sliceBound hi n fun h => sliceBound lo 0 fun a => .chk (decide (0 ≤ h ∧ h ≤ n)) (.chk (decide (0 ≤ a ∧ a ≤ h))
      (putSc (some dst) .str (.s (l.d.str.extract a.toNat h.toNat))))
  | _, _ => viewSl l fun es rows deps =>
    let n : Int := rows.length
    .chk (match ti.lts with | [.sl tes] => isSliceK ti.kind && Nat.beq es.length tes.length | _ => false) <| sliceBound hi n fun h => sliceBound lo 0 fun a => .chk (decide (0 ≤ h ∧ h ≤ n)) (.chk (decide (0 ≤ a ∧ a ≤ h))
      (match cut with
        | 0 => .setS dst (.one ⟨.sn deps, .sl es, .l ((rows.take h.toNat).drop a.toNat)⟩) .ret
        | 1 => (match l.st, lo with
         | .al key _, none => .getK key fun ke => match ke.ch with
            | .row es ms rows => .chk (noOB ms) (.setK key ⟨.gone, ke.idv + 1, ke.cv + 1⟩ (mkRow dst es ms (rows.take h.toNat)))
            | _ => .fail
         | _, _ => .fail)
        | _ => (match l.st with
         | .al key n => .getK key fun ke => .chk (Nat.beq ke.idv n && !keyEq key dKey) (match ke.ch with
            | .row es0 _ rows0 => .setK key { ke with ch := .fz es0 rows0 } (.setS dst (.one ⟨.sn [], .sl es, .l ((rows.take h.toNat).drop a.toNat)⟩) .ret)
            | .fz _ _ => .setS dst (.one ⟨.sn [], .sl es, .l ((rows.take h.toNat).drop a.toNat)⟩) .ret
            | _ => .fail)
         | .sn [] => .setS dst (.one ⟨.sn [], .sl es, .l ((rows.take h.toNat).drop a.toNat)⟩) .ret
         | .nl => .setS dst (.one ⟨.sn [], .sl es, .l ((rows.take h.toNat).drop a.toNat)⟩) .ret
         | _ => .fail)))

def intT (n : Int) : T := .i n
def i64 : ST := .int .i64
def minI (x y : Int) : Int := if y < x then y else x
def maxI (x y : Int) : Int := if y > x then y else x
def minmax (f : Int → Int → Int) : List Ent → Option (IntKind × Int)
  | [.one ⟨.sc, .sc (.int k), x⟩, .one ⟨.sc, .sc (.int k'), y⟩] => if k = k' then some (k, f x.int y.int) else none
  | _ => none

def isByteK : TK → Bool | .sc (.int .u8) => true | _ => false
def convStep (dst : Nat) (tsrc tdst : TI) (x : Ent) : Prog :=
  match tsrc.kind, tdst.kind with
  | .sc (.int _), .sc (.int k) => scal x fun s d => match s with
    | .int _ => putSc (some dst) (.int k) (.i (k.wrap d.int))
    | _ => .fail
  | .sc .str, .sc .str => scal x fun s d => match s with
    | .str => putSc (some dst) .str d
    | _ => .fail
  | .sc .str, .slice el => tyOf Γ el fun te => .chk (isByteK te.kind) (scal x fun s d => match s, tdst.lts with
    | .str, [.sl [.sc (.int .u8)]] => .chk (decide (d.str.size ≤ maxCells)) (.setS dst (.one ⟨.sn [], .sl [.sc (.int .u8)], .l (bytesRows d.str)⟩) .ret)
    | _, _ => .fail)
  | .slice el, .sc .str => tyOf Γ el fun te => .chk (isByteK te.kind) (one1 x fun l => viewSl l fun es rows _ => match es with
    | [.sc (.int .u8)] => putSc (some dst) .str (.s (rowsBytes rows))
    | _ => .fail)
  | _, _ => .fail

def bornBox (pm : List M) (d0 : Nat) (ls : List Leaf) : Prog :=
  match pm with
  | [] => mkBox d0 ls
  | pm => prepLeaves [d0 + 2000000, 500] 0 (pm.map pmOf) ls [] fun ls _ => mkBox d0 ls
def bornAgg (pm : List M) (dst : Option Nat) (ls : List Leaf) : Prog :=
  match pm, dst with
  | _ :: _, some d => prepLeaves [d + 2000000, 400] 0 (pm.map pmOf) ls [] fun ls _ => put dst (.agg ls)
  | _, _ => put dst (.agg ls)
/-- a slice operation of three bounds: rows without room, or what is read -/
def isZero : Operand → Bool | .const (.int _ 0) => true | _ => false
def slice3 (ti : TI) (dst : Nat) (x : Ent) (lo : Option Ent) (hi mx : Ent) (z : Bool) : Prog :=
  one1 x fun l => viewSl l fun es rows deps =>
    .chk (match ti.lts with | [.sl tes] => isSliceK ti.kind && Nat.beq es.length tes.length && !es.isEmpty | _ => false) <| scal hi fun sh h => scal mx fun sm m => sliceBound lo 0 fun a => (match sh, sm with
      | .int _, .int _ => .chk (decide (0 ≤ h.int ∧ h.int ≤ m.int ∧ m.int ≤ rows.length)) (.chk (decide (0 ≤ a ∧ a ≤ h.int))
        (cond (z && lo.isNone) (.chk (decide (h.int = 0 ∧ m.int = 0)) (mkRow dst es (es.map fun _ => .F) [])) (.setS dst (.one ⟨.sn deps, .sl es, .l ((rows.take h.int.toNat).drop a.toNat)⟩) .ret)))
      | _, _ => .fail)
def allSc (s : ST) : List Leaf → Bool
  | [] => true
  | l :: ls => (match l.st, l.lt with | .sc, .sc s' => decide (s = s') | _, _ => false) && allSc s ls
/-- all of an array that is a variable, read -/
def arrSlice (m : Nat) (el : TypeId) (dst : Nat) (e : Ent) : Prog := tyOf Γ el fun te => match te.lts, e with
  | [.sc s], .ptr key n _ off => .getK key fun ke => .chk (Nat.beq ke.idv n) (match ke.ch with
      | .box ls => .chk (Nat.beq off 0 && Nat.beq ls.length m && Nat.ble m 1000 && allSc s ls) (.setS dst (.one ⟨.sn [(key, ke.cv)], .sl [.sc s], .l (ls.map fun l => [l.d])⟩) .ret)
      | _ => .fail)
  | _, _ => .fail
def movePut (f : FuncId) (t : TypeId) (dst : Option Nat) (e : Ent) : Prog :=
  match e with
  | .tup _ => put dst e
  | e => tyOf Γ t fun ti => putNil (Γ.own f) (Γ.ms f) dst (retypeEnt ti.lts e)
def flatEnt : Ent → Bool | .tup _ => false | .fn _ _ => false | _ => true
/-- a choice's own value: of a bool just what it is -/
def canB (s : ST) (x : T) : T := match s with | .bool => .b x.bool | _ => x
def opStep (f : FuncId) (o : Oper) : Prog :=
  let dst := o.dst
  let wd := ofOpt o.dst
  match o.op with
  | .move x | .assign x => rd x fun e => movePut Γ f o.type dst e
  | .pick c a b => rd c fun c => rd a fun a => rd b fun b => scal c fun sc c =>
      match sc with
      | .bool => .br c.bool (scal a fun s x => putSc dst s (canB s x)) (scal b fun s x => putSc dst s (canB s x))
      | _ => .fail
  | .alloc t => wd fun d0 => tyOf Γ t fun ti => bornBox (Γ.box f d0) d0 (ti.lts.map zeroLeaf)
  | .box t x => wd fun d0 => tyOf Γ t fun ti => rd x fun e => ofOpt (leavesOf e) fun ls => bornBox (Γ.box f d0) d0 (retype ti.lts ls)
  | .build t ps => tyOf Γ t fun ti => match ti.kind with
      | .struct fs => partLeaves ps.toList fun r => ofOpt (fillLeaves Γ fs r (ti.lts.map zeroLeaf)) fun ls => bornAgg (match dst with | some d => Γ.box f d | none => []) dst (retype ti.lts ls)
      | .array m el => tyOf Γ el fun te => partLeaves ps.toList fun r => ofOpt (fillLeaves Γ ((List.range m).map fun i => (i * te.lts.length, el)) r (ti.lts.map zeroLeaf)) fun ls => bornAgg (match dst with | some d => Γ.box f d | none => []) dst (retype ti.lts ls)
      | _ => .fail
  | .buildSlice t n ps => wd fun d0 => tyOf Γ t fun ti => match ti.kind, ti.lts with
      | .slice _, [.sl es] => .chk (scOnly es && Nat.ble (n * es.length) 16777216) <| 
          litModes (Γ.ms f d0) es ps.toList fun ms => .chk (msOk es ms) (partsOf es ms ps.toList fun r =>
          ofOpt (fillRows es.length r (List.replicate n (es.map zeroD))) fun rows => mkRowF (!Γ.own f d0) d0 es ms rows)
      | _, _ => .fail
  | .load t a => tyOf Γ t fun ti => rd a fun e =>
      let size := ti.lts.length
      let agg := isAggK ti.kind
      match e with
      | .ptr key n r off => .getK key fun ke => .chk (Nat.beq ke.idv n) (match ke.ch with
          | .box ls => .chk (Nat.ble (off + size) ls.length) (put dst (mkEnt agg ((ls.drop off).take size)))
          | .row es ms rows => .chk (Nat.ble (off + size) es.length) (.chk (decide (r < rows.length)) (put dst (mkEnt agg (rowLeaves key n ke.cv r off size es ms (rows.getD r [])))))
          | .fz es rows => .chk (Nat.ble (off + size) es.length) (.chk (decide (r < rows.length)) (put dst (mkEnt agg (frozenLeaves [] size (es.drop off) ((rows.getD r []).drop off)))))
          | .hol _ _ _ r' j => .chk (Nat.beq r r') (.getK (holB key) fun kb => .chk (Nat.beq kb.idv j) <| match kb.ch with
              | .box ls => .chk (Nat.ble (off + size) ls.length) (put dst (mkEnt agg ((ls.drop off).take size)))
              | _ => .fail)
          | _ => .fail)
      | .rp deps lts row => .chk (Nat.ble size lts.length) (depsOk deps (put dst (mkEnt agg (frozenLeaves deps size lts row))))
      | _ => .fail
  | .store t a x => tyOf Γ t fun ti => rd a fun e => rd x fun v => ofOpt (leavesOf v) fun ls =>
      match e with
      | .ptr key n r off => .getK key fun ke => .chk (Nat.beq ke.idv n) (match ke.ch with
          | .box old => .chk (Nat.beq ls.length ti.lts.length && Nat.ble (off + ls.length) old.length) (.setK key ⟨.box (old.take off ++ retype ti.lts ls ++ old.drop (off + ls.length)), ke.idv, ke.cv + 1⟩ (put dst .und))
          | .row es0 ms0 _ => .chk (Nat.beq ls.length ti.lts.length && Nat.ble (off + ls.length) es0.length) <| absorb ((es0.drop off).take ls.length) (ms0.drop off) ls fun ds => .getK key fun ke => .chk (Nat.beq ke.idv n) <| match ke.ch with
              | .row es ms rows => .chk (LT.beqs es0 es && M.beqs ms0 ms && decide (r < rows.length))
                  (.setK key ⟨.row es ms (rows.set r (setMany (rows.getD r []) off ds)), ke.idv, ke.cv + 1⟩ (put dst .und))
              | _ => .fail
          | .hol _ _ _ r' j => .chk (Nat.beq r r') (.getK (holB key) fun kb => .chk (Nat.beq kb.idv j) <| match kb.ch with
              | .box old => .chk (Nat.beq ls.length ti.lts.length && Nat.ble (off + ls.length) old.length) (.setK (holB key) ⟨.box (old.take off ++ retype ti.lts ls ++ old.drop (off + ls.length)), kb.idv, kb.cv + 1⟩ (closeRow key (put dst .und)))
              | _ => .fail)
          | _ => .fail)
      | _ => .fail
  | .nilCheck x => rd x fun e => match e with
      | .ptr k n _ _ => .getK k fun ke => .chk (Nat.beq ke.idv n) (put dst e)
      | .rp ds _ _ => depsOk ds (put dst e)
      | _ => .fail
  | .binOp op t x y _ => tyOf Γ t fun ti => rd x fun x => rd y fun y => binE ti op x y fun s d => putSc dst s d
  | .unOp op _ x => rd x fun x => scal x fun s d => match op, s with
      | .not, .bool => putSc dst .bool (.b (!d.bool))
      | .neg, .int k => putSc dst (.int k) (.i (k.wrap (0 - d.int)))
      | .xor, .int k => putSc dst (.int k) (bvBack k (BitVec.ofInt k.bits (if k.signed then -1 else k.max) ^^^ BitVec.ofInt k.bits d.int))
      | _, _ => .fail
  | .convert s t x => wd fun d0 => tyOf Γ s fun ts => tyOf Γ t fun tt => rd x fun e => convStep Γ d0 ts tt e
  | .makeSlice t l c => wd fun d0 => tyOf Γ t fun ti => rd l fun l => rd c fun c => scal l fun sl l => scal c fun sc c => match sl, sc, ti.kind, ti.lts with
      | .int .i64, .int .i64, .slice el, [.sl es] => tyOf Γ el fun te =>
          .chk (scOnly es && msOk es (modesOf (Γ.ms f) d0 es) && decide (0 ≤ l.int ∧ l.int ≤ c.int)) (.chk (decide (c.int * te.bytes ≤ maxCells)) (mkRow d0 es (modesOf (Γ.ms f) d0 es) (List.replicate l.int.toNat (es.map zeroD))))
      | _, _, _, _ => .fail
  | .slice t x lo hi none => wd fun d0 => tyOf Γ t fun ti => rd x fun x =>
      let go (lo : Option Ent) (hi : Option Ent) := sliceStep ti (Γ.cut f d0) d0 x lo hi
      match lo, hi with
      | none, none => (match ti.kind with | .array m el => arrSlice Γ m el d0 x | _ => go none none)
      | some a, none => rd a fun a => go (some a) none
      | none, some b => rd b fun b => go none (some b)
      | some a, some b => rd a fun a => rd b fun b => go (some a) (some b)
  | .slice t x lo (some hi) (some mx) => wd fun d0 => tyOf Γ t fun ti => rd x fun x => rd hi fun h => rd mx fun m => (match lo with
      | none => slice3 ti d0 x none h m (isZero hi && isZero mx)
      | some lo => rd lo fun l => slice3 ti d0 x (some l) h m false)
  | .fieldAddr t x i => tyOf Γ t fun ti => rd x fun e => match ti.kind with
      | .struct fs => ofOpt fs[i]? fun (off, _) => match e with
          | .ptr k n r o => .getK k fun ke => .chk (Nat.beq ke.idv n) (put dst (.ptr k n r (o + off)))
          | .rp deps lts row => .chk (Nat.ble off lts.length) (depsOk deps (put dst (.rp deps (lts.drop off) (row.drop off))))
          | _ => .fail
      | _ => .fail
  | .field t x i => tyOf Γ t fun ti => rd x fun e => match ti.kind, e with
      | .struct fs, .agg ls => ofOpt fs[i]? fun (off, ft) => tyOf Γ ft fun tf => .chk (Nat.ble (off + tf.lts.length) ls.length) (put dst (mkEnt (isAggK tf.kind) ((ls.drop off).take tf.lts.length)))
      | _, _ => .fail
  | .indexAddr t x i => tyOf Γ t fun ti => rd x fun e => rd i fun ie => scal ie fun si ix => match si, ti.kind, ti.lts, e with
      | .int _, .slice _, [.sl tes], .one l => (match l.st with
          | .al key n => .getK key fun ke => .chk (Nat.beq ke.idv n) (match ke.ch with
              | .row es _ rows => .chk (Nat.beq es.length tes.length) (.chk (decide (0 ≤ ix.int ∧ ix.int < rows.length)) (put dst (.ptr key n ix.int.toNat 0)))
              | .fz es rows => .chk (Nat.beq es.length tes.length) (.chk (decide (0 ≤ ix.int ∧ ix.int < rows.length)) (put dst (.ptr key n ix.int.toNat 0)))
              | _ => .fail)
          | _ => viewSl l fun es rows deps => .chk (Nat.beq es.length tes.length) (.chk (decide (0 ≤ ix.int ∧ ix.int < rows.length)) (put dst (.rp deps es (rows.getD ix.int.toNat [])))))
      | _, _, _, _ => .fail
  | .index t x i => tyOf Γ t fun ti => rd x fun x => rd i fun i => scal x fun sx d => scal i fun si ix => match si, sx, ti.kind with
      | .int _, .str, .sc .str => .chk (decide (0 ≤ ix.int ∧ ix.int < d.str.size)) (putSc dst (.int .u8) (.i (d.str.data.toList.getD ix.int.toNat 0).toNat))
      | _, _, _ => .fail
  | .extract x i => rd x fun e => match e with
      | .tup es => ofOpt es[i]? fun e => put dst e
      | _ => .fail
  | .makeFunc (.func g) first caps => cond (first.isEmpty) (rdAll caps.toList fun es => .chk (es.all flatEnt) (put dst (.fn g es))) .fail
  | .call c => match c.callee with
      | .value g => rd g fun g => rdAll c.args.toList fun es => match g with
          | .fn g caps => callStep Γ f g dst (es ++ caps)
          | _ => .fail
      | .builtin .len => ofOpt c.argTypes[0]? fun t => tyOf Γ t fun ti => rdAll c.args.toList fun es => match es with
          | [.one l] => (match l.st, l.lt with
              | .sc, .sc .str => .chk (isStrK ti.kind) (putSc dst i64 (.i l.d.str.size))
              | _, _ => .chk (isSliceK ti.kind) (viewSl l fun _ rows _ => .lim (decide (rows.length ≤ maxCells)) (putSc dst i64 (.i rows.length))))
          | _ => .fail
      | .builtin .min => rdAll c.args.toList fun es => ofOpt (minmax minI es) fun (k, v) => putSc dst (.int k) (.i v)
      | .builtin .max => rdAll c.args.toList fun es => ofOpt (minmax maxI es) fun (k, v) => putSc dst (.int k) (.i v)
      | .builtin .append => wd fun d0 => rdAll c.args.toList fun es => match es, c.argTypes.toList with
          | [s, x], [t, tx] => tyOf Γ t fun ti => tyOf Γ tx fun tk => match ti.kind, ti.lts with
              | .slice _, [.sl lts] => .chk (isSliceK tk.kind || isStrK tk.kind) (appendStep (Γ.ms f d0) d0 lts s x)
              | _, _ => .fail
          | _, _ => .fail
      | _ => .fail
  | _ => .fail

/-! liveness: bit masks of slots -/
def bit (t : Nat) : Nat := 1 <<< t
def useOp (m : Nat) : Operand → Nat
  | .tmp t => m ||| bit t
  | _ => m
def liveOps (ops : Array Oper) : List Oper → Nat → Nat
  | [], m => m
  | o :: os, m =>
    let m := liveOps ops os m
    let m := match o.dst with
      | some d => m ^^^ (m &&& bit d)
      | none => m
    let m := o.op.operands.toList.foldl useOp m
    match o.guard with
    | some (i, _) => (match (ops[i]?).bind (·.dst) with | some d => m ||| bit d | none => m)
    | none => m
def exMask (ex : List (Nat × Nat)) (id : Nat) : Nat := match ex.find? (fun p => Nat.beq p.1 id) with | some p => p.2 | none => 0
def lin (ret : Nat) : List (Nat × Nat) → Code → Nat → Nat
  | _, .region _ ops _, m => liveOps ops ops.toList m
  | ex, .seq a b, m => lin ret ex a (lin ret ex b m)
  | ex, .cond c a b, m => useOp (lin ret ex a m ||| lin ret ex b m) c
  | ex, .block id b, m => lin ret ((id, m) :: ex) b m
  | ex, .loop b, _ => lin ret ex b (lin ret ex b 0)
  | ex, .exit id, _ => exMask ex id
  | _, .ret, _ => ret
  | _, _, m => m

/-! what is kept at a loop's head and at an exit -/
structure Pack where
  es : List (Nat × Ent)
  ks : List (Key × Ch)
  deriving Inhabited
inductive Ctl where
  | normal | exit (id : Nat) | ret
  deriving Inhabited

/-- nothing of it is out -/
def wholeB : Ch → Bool
  | .hob _ _ _ => false
  | .hol _ _ _ _ _ => false
  | _ => true
def depsLive (σ : S) (ds : List Dep) : Bool := ds.all fun d => Nat.beq (σ.k d.1).cv d.2 && wholeB (σ.k d.1).ch
def zeroDeps (ds : List Dep) : List Dep := ds.map fun d => (d.1, 0)
def normLeaf (σ : S) (l : Leaf) : Leaf :=
  match l.st with
  | .sn ds => cond (depsLive σ ds) { l with st := .sn (zeroDeps ds) } { l with st := .dead, d := .l [] }
  | .sb k _ cv _ _ => cond (depsLive σ [(k, cv)]) { l with st := .sn [(k, 0)] } { l with st := .dead, d := .l [] }
  | .al k n => cond (Nat.beq (σ.k k).idv n && wholeB (σ.k k).ch) { l with st := .al k 0 } { l with st := .dead, d := .l [] }
  | _ => l
def normEnt (σ : S) : Nat → Ent → Ent
  | _, .one l => .one (normLeaf σ l)
  | _, .agg ls => .agg (ls.map (normLeaf σ))
  | n + 1, .tup es => .tup (es.map (normEnt σ n))
  | _, .ptr k n i off => cond (Nat.beq (σ.k k).idv n && wholeB (σ.k k).ch) (.ptr k 0 i off) .junk
  | _, .rp ds lts row => cond (depsLive σ ds) (.rp (zeroDeps ds) lts row) .junk
  | n + 1, .fn f caps => .fn f (caps.map (normEnt σ n))
  | _, .und => .und
  | _, _ => .junk
def leafKeys (l : Leaf) : List Key := match l.st with
  | .sn ds => ds.map (·.1)
  | .sb k _ _ _ _ => [k]
  | .al k _ => [k]
  | _ => []
def entKeys : Nat → Ent → List Key
  | _, .one l => leafKeys l
  | _, .agg ls => ls.flatMap leafKeys
  | n + 1, .tup es => es.flatMap (entKeys n)
  | _, .ptr k _ _ _ => [k]
  | _, .rp ds _ _ => ds.map (·.1)
  | n + 1, .fn _ caps => caps.flatMap (entKeys n)
  | _, _ => []
def addKeys (ks new : List Key) : List Key := new.foldl (fun ks k => cond (ks.any (keyEq k)) ks (ks ++ [k])) ks
def chKeys : Ch → List Key
  | .box ls => ls.flatMap leafKeys
  | _ => []
/-- names at a loop's head: parameters' chunks keep theirs; the others are numbered -/
def numKey (k : Key) : Nat → List Key → Key
  | _, [] => k
  | i, u :: us => cond (keyEq k u) [1000000, i] (numKey k (i + 1) us)
def parB (np : Nat) : Key → Bool
  | i :: _ => Nat.blt i np
  | [] => false
def renKey (np : Nat) (ks : List Key) (k : Key) : Key := cond (parB np k || keyEq k dKey) k (numKey k 0 ks)
def inKs (ks : List Key) (k : Key) : Bool := ks.any (keyEq k)
def renDeps (np : Nat) (ks : List Key) (ds : List Dep) : List Dep := ds.map fun d => (renKey np ks d.1, d.2)
def renLeaf (np : Nat) (ks : List Key) (l : Leaf) : Leaf :=
  match l.st with
  | .sn ds => cond (ds.all fun d => inKs ks d.1) { l with st := .sn (renDeps np ks ds) } { l with st := .dead, d := .l [] }
  | .sb _ _ _ _ _ => { l with st := .dead, d := .l [] }
  | .al k n => cond (inKs ks k) { l with st := .al (renKey np ks k) n } { l with st := .dead, d := .l [] }
  | _ => l
def renEnt (np : Nat) (ks : List Key) : Nat → Ent → Ent
  | _, .one l => .one (renLeaf np ks l)
  | _, .agg ls => .agg (ls.map (renLeaf np ks))
  | n + 1, .tup es => .tup (es.map (renEnt np ks n))
  | _, .ptr k n i off => cond (inKs ks k) (.ptr (renKey np ks k) n i off) .junk
  | _, .rp ds lts row => cond (ds.all fun d => inKs ks d.1) (.rp (renDeps np ks ds) lts row) .junk
  | n + 1, .fn f caps => .fn f (caps.map (renEnt np ks n))
  | _, .und => .und
  | _, _ => .junk
def normCh (σ : S) : Ch → Ch
  | .box ls => .box (ls.map (normLeaf σ))
  | .hob _ _ _ => .gone
  | .hol _ _ _ _ _ => .gone
  | c => c
def renCh (np : Nat) (ks : List Key) : Ch → Ch
  | .box ls => .box (ls.map (renLeaf np ks))
  | c => c
def bitsOf (n m : Nat) : List Nat := (List.range n).filter fun t => Nat.testBit m t
/-- 'np': how many parameters, 'n': how many slots, 'm': which are kept -/
def packS (np n m : Nat) (σ : S) : Pack :=
  let es := (bitsOf n m).map fun t => (t, normEnt σ 3 (σ.s t))
  let ks := addKeys [] (es.flatMap fun e => entKeys 3 e.2)
  let ks2 := addKeys ks (ks.flatMap fun k => chKeys (normCh σ (σ.k k).ch))
  ⟨es.map fun e => (e.1, renEnt np ks2 3 e.2), ks2.map fun k => (renKey np ks2 k, renCh np ks2 (normCh σ (σ.k k).ch))⟩
def findEnt (t : Nat) : List (Nat × Ent) → Ent
  | [] => .junk
  | (u, e) :: r => cond (Nat.beq t u) e (findEnt t r)
def findCh (k : Key) : List (Key × Ch) → KE
  | [] => ⟨.gone, 0, 0⟩
  | (u, c) :: r => cond (keyEq k u) ⟨c, 0, 0⟩ (findCh k r)
def unpackS (p : Pack) : S := ⟨fun t => findEnt t p.es, fun k => findCh k p.ks⟩

/-! regions -/
def litB (b : Bool) : Ent := .one ⟨.sc, .sc .bool, .b b⟩
variable (cf : FuncId → List Arg → R3 Ret)
def indepTr (a b : Tr) : Bool :=
  !(a.ws.any fun t => b.ws.any (Nat.beq t) || b.rs.any (Nat.beq t)) && !(b.ws.any fun t => a.rs.any (Nat.beq t)) &&
  !(a.wk.any fun t => b.wk.any (keyEq t) || b.rk.any (keyEq t)) && !(b.wk.any fun t => a.rk.any (keyEq t))
def befMask (acc : List Nat) (o : Oper) : Nat := o.after.toList.foldl (fun s e => cond (Region.binds .any e) (s ||| 2 ^ e.on ||| acc.getD e.on 0) s) 0
def befGo : List Oper → List Nat → List Nat
  | [], acc => acc
  | o :: os, acc => befGo os (acc ++ [befMask acc o])
def afterOk : Nat → List Oper → Bool
  | _, [] => true
  | j, o :: os => (o.after.toList.all fun e => !Region.binds .any e || Nat.blt e.on j) && afterOk (j + 1) os
/-- each run and those behind it that need not be behind it leave each other alone -/
def drawRow (bf : List Nat) (i : Nat) (ti : Tr) : Nat → List Tr → Bool
  | _, [] => true
  | j, tj :: ts => (Nat.testBit (bf.getD j 0) i || indepTr ti tj) && drawRow bf i ti (j + 1) ts
def drawAll (bf : List Nat) : Nat → List Tr → Bool
  | _, [] => true
  | i, ti :: ts => drawRow bf i ti (i + 1) ts && drawAll bf (i + 1) ts
def drawOk (ops : Array Oper) (trs : List Tr) : Bool := afterOk 0 ops.toList && drawAll (befGo ops.toList []) 0 trs
def dstOk (np nt : Nat) (o : Oper) : Bool := match o.dst with | some d => Nat.blt d nt | none => true
def lookAsm (g : Nat) : List (Nat × Bool) → Option Bool
  | [] => none
  | (u, b) :: r => cond (Nat.beq g u) (some b) (lookAsm g r)
def dropAsm (ws : List Nat) : List (Nat × Bool) → List (Nat × Bool)
  | [] => []
  | (u, b) :: r => cond (ws.any (Nat.beq u)) (dropAsm ws r) ((u, b) :: dropAsm ws r)
/-- what is known of a condition, in place of what was read -/
def pickV (asm : List (Nat × Bool)) (x : Operand) (e : Ent) : Ent :=
  match x with
  | .tmp u => (match lookAsm u asm with
    | some w => litB w
    | none => e)
  | _ => e
/-- a choice whose condition is known -/
def opStepA (f : FuncId) (asm : List (Nat × Bool)) (o : Oper) : Prog :=
  match o.op with
  | .pick (.tmp c) a b => (match lookAsm c asm with
    | some v => .getS c fun _ => rd a fun ea => rd b fun eb => cond v (scal (pickV asm a ea) fun s x => putSc o.dst s (canB s x)) (scal (pickV asm b eb) fun s x => putSc o.dst s (canB s x))
    | none => opStep Γ f o)
  | _ => opStep Γ f o
/-- 'asm': what is known of conditions that guard -/
def runOps {α : Type} (f np nt : Nat) (ops : Array Oper) : List Oper → S → List Tr → List (Nat × Bool) → (S → List Tr → List (Nat × Bool) → R3 α) → R3 α
  | [], σ, trs, asm, K => K σ trs.reverse asm
  | o :: os, σ, trs, asm, K =>
    cond (dstOk np nt o) (
      let step (tr0 : Tr) (asm : List (Nat × Bool)) : R3 α := (opStepA Γ f asm o).run cf σ tr0 fun σ tr => runOps f np nt ops os σ (tr :: trs) (dropAsm tr.ws asm) K
      let skip (g : Nat) (asm : List (Nat × Bool)) : R3 α := (put o.dst .und).run cf σ { rs := [g] } fun σ tr => runOps f np nt ops os σ (tr :: trs) (dropAsm tr.ws asm) K
      match o.guard with
      | none => step {} asm
      | some (i, want) =>
        match (ops[i]?).bind (·.dst) with
        | none => .bad
        | some g =>
          match lookAsm g asm with
          | some b => cond (b == want) (step { rs := [g] } asm) (skip g asm)
          | none =>
            match σ.s g with
            | .und => skip g asm
            | .one ⟨.sc, .sc .bool, d⟩ => cond (d.bool == want) (step { rs := [g] } ((g, want) :: asm)) (skip g ((g, !want) :: asm))
            | _ => .bad) .bad
def asmS (σ : S) : List (Nat × Bool) → S
  | [] => σ
  | (g, b) :: r => (asmS σ r).setS g (litB b)

def frzLeaf (l : Leaf) (p : Prog) : Prog :=
  match l.st with
  | .al key n => .getK key fun ke => cond (Nat.beq ke.idv n) (match ke.ch with
      | .row es _ rows => .setK key { ke with ch := .fz es rows } p
      | _ => p) p
  | _ => p
def frzLeaves : List Leaf → Prog → Prog
  | [], p => p
  | l :: ls, p => frzLeaf l (frzLeaves ls p)
/-- ahead of a region: what these leaves own is never written again -/
def regG : List (Nat × Nat) → Prog
  | [] => .ret
  | (t, j) :: r => .getS t fun e => match e with
    | .one l => frzLeaf l (regG r)
    | .agg ls => frzLeaf (ls.getD j default) (regG r)
    | .ptr k _ _ off => .getK k fun ke => (match ke.ch with
      | .box ls => frzLeaf (ls.getD (off + j) default) (regG r)
      | _ => regG r)
    | _ => regG r
/-! code -/
structure Fi where
  f : FuncId
  np : Nat
  nt : Nat
  ret : Nat    -- what is live behind the return
def execC {α : Type} (lf : List (Nat × Nat) → Code → Pack → R3 (Ctl × Pack)) (fi : Fi) : List (Nat × Nat) → Nat → Code → S → (Ctl → S → R3 α) → R3 α
  | _, _, .skip, σ, K => K .normal σ
  | _, _, .region id ops dr, σ, K => (regG (Γ.rg fi.f id)).run cf σ {} fun σ _ => runOps Γ cf fi.f fi.np fi.nt ops ops.toList σ [] [] fun σ trs asm => cond (!dr || drawOk ops trs) (K .normal (asmS σ asm)) .bad
  | ex, af, .seq a b, σ, K => execC lf fi ex (lin fi.ret ex b af) a σ fun c σ => match c with
      | .normal => execC lf fi ex af b σ K
      | c => K c σ
  | ex, af, .cond c a b, σ, K =>
    match c with
    | .tmp t => (match σ.s t with
      | .one ⟨.sc, .sc .bool, d⟩ => cond d.bool (execC lf fi ex af a (σ.setS t (litB true)) K) (execC lf fi ex af b (σ.setS t (litB false)) K)
      | _ => .bad)
    | .const (.bool true) => execC lf fi ex af a σ K
    | .const (.bool false) => execC lf fi ex af b σ K
    | _ => .bad
  | ex, af, .block id b, σ, K => execC lf fi ((id, af) :: ex) af b σ fun c σ => match c with
      | .exit id' => cond (Nat.beq id' id) (K .normal σ) (K (.exit id') σ)
      | c => K c σ
  | ex, _, .loop b, σ, K => (lf ex b (packS fi.np fi.nt (lin fi.ret ex b (lin fi.ret ex b 0)) σ)).bind fun cp => K cp.1 (unpackS cp.2)
  | _, _, .exit id, σ, K => K (.exit id) σ
  | _, _, .ret, σ, K => K .ret σ
  | _, _, _, _, _ => .bad
def loopE (fi : Fi) : Nat → List (Nat × Nat) → Code → Pack → R3 (Ctl × Pack)
  | 0, _, _, _ => .bad
  | n + 1, ex, b, p =>
    let m := lin fi.ret ex b (lin fi.ret ex b 0)
    execC Γ cf (loopE fi n) fi ex m b (unpackS p) fun c σ => match c with
      | .normal => loopE fi n ex b (packS fi.np fi.nt m σ)
      | .exit id => .ok (.exit id, packS fi.np fi.nt (exMask ex id) σ)
      | .ret => .ok (.ret, packS fi.np fi.nt fi.ret σ)

/-! functions -/
def leafIn (i j : Nat) : AL → Leaf
  | .sc s d => ⟨.sc, .sc s, d⟩
  | .fz es rows => ⟨.sn [], .sl es, .l rows⟩
  | .dz es rows => ⟨.sn [(dKey, 0)], .sl es, .l rows⟩
  | .own es _ _ => ⟨.al [i, j] 0, .sl es, .l []⟩
  | .nl es => ⟨.nl, .sl es, .l []⟩
def leavesIn (i : Nat) : Nat → List AL → List Leaf
  | _, [] => []
  | j, a :: as => leafIn i j a :: leavesIn i (j + 1) as
def capIn : Arg → Ent
  | .rpt lts row => .rp [(dKey, 0)] lts row
  | _ => .junk
def entIn (i : Nat) : Arg → Ent
  | .one a => .one (leafIn i 0 a)
  | .agg as => .agg (leavesIn i 0 as)
  | .rpt lts row => .rp [(dKey, 0)] lts row
  | .bx _ => .ptr [i, bxJ] 0 0 0
  | .fn f caps => .fn f (caps.map capIn)
def alChs (i : Nat) : Nat → List AL → List (Key × Ch)
  | _, [] => []
  | j, a :: as => match a with
    | .own es ms rows => ([i, j], .row es ms rows) :: alChs i (j + 1) as
    | _ => alChs i (j + 1) as
def chsIn (i : Nat) : Arg → List (Key × Ch)
  | .one a => alChs i 0 [a]
  | .agg as => alChs i 0 as
  | .bx as => ([i, bxJ], .box (leavesIn i 0 as)) :: alChs i 0 as
  | _ => []
def entsIn : Nat → List Arg → List (Nat × Ent)
  | _, [] => []
  | i, a :: as => (i, entIn i a) :: entsIn (i + 1) as
def chsAll : Nat → List Arg → List (Key × Ch)
  | _, [] => []
  | i, a :: as => chsIn i a ++ chsAll (i + 1) as
def startS (args : List Arg) : Pack := ⟨entsIn 0 args, chsAll 0 args⟩

def goneB : Ch → Bool | .gone => true | _ => false
/-- a leaf that goes out; 'np': how many parameters -/
def leafOut (σ : S) (np : Nat) (l : Leaf) : Option RL :=
  match l.lt, l.st with
  | .sc s, .sc => some (.sc s l.d)
  | .sl es, .nl => some (.nl es)
  | .sl es, .sn ds => (match ds with
    | [] => some (.fz es l.d.rows)
    | ds => cond (goneB (σ.k dKey).ch && ds.all fun d => keyEq d.1 dKey && Nat.beq (σ.k dKey).cv d.2) (some (.dz es l.d.rows)) none)
  | .sl es0, .al k n =>
    let ke := σ.k k
    cond (Nat.beq ke.idv n) (match ke.ch with
      | .fz es rows => cond (LT.beqs es0 es) (some (.fz es rows)) none
      | .row es ms rows => cond (LT.beqs es0 es) (match k with
          | [i, j] => cond (Nat.blt i np) (some (.par i j)) (some (.own k es ms rows))
          | _ => cond (Nat.blt (k.headD 0) np) none (some (.own k es ms rows))) none
      | _ => none) none
  | _, _ => none
def leavesOut (σ : S) (np : Nat) : List Leaf → Option (List RL)
  | [] => some []
  | l :: ls => match leafOut σ np l, leavesOut σ np ls with
    | some r, some rs => some (r :: rs)
    | _, _ => none
def entOut (σ : S) (np : Nat) : Ent → Option RE
  | .one l => (leafOut σ np l).map .one
  | .agg ls => (leavesOut σ np ls).map .agg
  | .ptr k n _ off => cond (Nat.beq (σ.k k).idv n && Nat.beq off 0 && !Nat.blt (k.headD 0) np) (match (σ.k k).ch with
    | .box ls => (leavesOut σ np ls).map (.bx k)
    | _ => none) none
  | _ => none
def entsOut (σ : S) (np : Nat) : List Ent → Option (List RE)
  | [] => some []
  | l :: ls => match entOut σ np l, entsOut σ np ls with
    | some r, some rs => some (r :: rs)
    | _, _ => none
def ownsOut (σ : S) (i : Nat) : Nat → List AL → List (Option (List LT × List M × List (List T)))
  | _, [] => []
  | j, a :: as => (match a with
    | .own .. => (match (σ.k [i, j]).ch with | .row es ms rows => some (es, ms, rows) | _ => none)
    | _ => none) :: ownsOut σ i (j + 1) as
def ownOut (σ : S) (i : Nat) (a : Arg) : List (Option (List LT × List M × List (List T))) :=
  match a with | .one a => ownsOut σ i 0 [a] | .agg as => ownsOut σ i 0 as | .bx as => ownsOut σ i 0 as | _ => []
def ownsAll (σ : S) : Nat → List Arg → List (List (Option (List LT × List M × List (List T))))
  | _, [] => []
  | i, a :: as => ownOut σ i a :: ownsAll σ (i + 1) as
/-- what variables hold in the end -/
def bxsOut (σ : S) (np : Nat) : Nat → List Arg → Option (List (Option (List RL)))
  | _, [] => some []
  | i, .bx _ :: as => (match (σ.k [i, bxJ]).ch with
    | .box ls => (match leavesOut σ np ls, bxsOut σ np (i + 1) as with
      | some r, some rs => some (some r :: rs)
      | _, _ => none)
    | _ => none)
  | i, _ :: as => (bxsOut σ np (i + 1) as).map (none :: ·)
def keysOfL (rl : RL) : List Key := match rl with | .own k _ _ _ => [k] | _ => []
def keysOfB (o : Option (List RL)) : List Key := match o with | some ls => ls.flatMap keysOfL | none => []
/-- chunks that go out must not go out twice -/
def keysOfR : RE → List Key
  | .one (.own k _ _ _) => [k]
  | .agg ls => ls.filterMap fun l => match l with | .own k _ _ _ => some k | _ => none
  | .bx k ls => k :: ls.flatMap keysOfL
  | _ => []
def nodupKeys : List Key → Bool
  | [] => true
  | k :: ks => !(ks.any (keyEq k)) && nodupKeys ks
def resE (σ : S) : List ResultVar → Option (List Ent)
  | [] => some []
  | .tmp t :: rs => (resE σ rs).map fun es => σ.s t :: es
  | .cell a t :: rs => match Γ.ty t, σ.s a with
    | some ti, .ptr k m _ off => cond (Nat.beq (σ.k k).idv m) (match (σ.k k).ch with
        | .box ls => cond (Nat.ble (off + ti.lts.length) ls.length) ((resE σ rs).map fun es => mkEnt (isAggK ti.kind) ((ls.drop off).take ti.lts.length) :: es) none
        | _ => none) none
    | _, _ => none
def retOf (fn : Func) (args : List Arg) (σ : S) : R3 Ret :=
  let np := args.length
  match resE Γ σ fn.results.toList with
  | none => .bad
  | some es =>
    match entsOut σ np es with
    | some rs => (match bxsOut σ np 0 args with
      | some bs => cond (nodupKeys (rs.flatMap keysOfR ++ bs.flatMap keysOfB)) (.ok ⟨rs, ownsAll σ 0 args, bs⟩) .bad
      | none => .bad)
    | none => .bad
/-- slices that are handed back are never written again, where the table says so -/
def frzRes : List ResultVar → Prog → Prog
  | [], p => p
  | .tmp t :: rs, p => .getS t fun e => (match e with | .one l => frzLeaf l (frzRes rs p) | .agg ls => frzLeaves ls (frzRes rs p) | _ => frzRes rs p)
  | .cell a _ :: rs, p => .getS a fun e => (match e with | .ptr k _ _ _ => .getK k fun ke => (match ke.ch with | .box ls => frzLeaves ls (frzRes rs p) | _ => frzRes rs p) | _ => frzRes rs p)
/-- rows that go out bear the names of their places; nil becomes rows where the modes say so -/
def canMove (nk : Key) (l : Leaf) (k : Leaf → Prog) : Prog :=
  match l.st with
  | .al key n => cond (keyEq key nk) (k l) (.getK key fun ke => cond (Nat.beq ke.idv n) (match ke.ch with
      | .row es ms rows => .getK nk fun kn => .setK nk ⟨.row es ms rows, kn.idv + 1, kn.cv + 1⟩ (.setK key ⟨.gone, ke.idv + 1, ke.cv + 1⟩ (k ⟨.al nk (kn.idv + 1), .sl es, .l []⟩))
      | _ => k l) (k l))
  | _ => k l
def pmCan : M → PM | .F => .R | .O ms => .O ms
/-- the mark of a leaf that a function leaves alone: it keeps its name -/
def isKeep : M → Bool | .O [.O []] => true | _ => false
def canLeaf (nk : Key) (m : M) (l : Leaf) (k : Leaf → Prog) : Prog :=
  cond (isKeep m) (k l) <| match l.st with
  | .nl => prepLeaf nk (pmCan m) l [] fun l _ => k l
  | .al key _ => (match m with
    | .O ms => .getK key fun ke => (match ke.ch with
      | .row _ ms0 _ => cond (M.canBes ms0 ms) (prepLeaf nk (.O ms) l [] fun l _ => canMove nk l k) (canMove nk l k)
      | _ => canMove nk l k)
    | .F => canMove nk l k)
  | _ => k l
def canLeaves (base : Nat) : Nat → List M → List Leaf → (List Leaf → Prog) → Prog
  | _, _, [], k => k []
  | j, ms, l :: ls, k => canLeaf [6000000, base, j] (ms.headD .F) l fun l => canLeaves base (j + 1) ms.tail ls fun ls => k (l :: ls)
def hasSl (ls : List Leaf) : Bool := ls.any fun l => match l.st with | .nl => true | .al _ _ => true | _ => false
def canBox (base : Nat) (ms : List M) (key : Key) (n : Nat) (p : Prog) : Prog :=
  .getK key fun ke => cond (Nat.beq ke.idv n) (match ke.ch with
    | .box ls => cond (hasSl ls) (canLeaves base 0 ms ls fun ls' => .getK key fun ke => .chk (Nat.beq ke.idv n) (match ke.ch with
      | .box ls0 => .chk (Nat.beq ls'.length ls0.length) (.setK key ⟨.box ls', ke.idv, ke.cv + 1⟩ p)
      | _ => .fail)) p
    | _ => p) p
def canRes (f : FuncId) : Nat → List ResultVar → Prog → Prog
  | _, [], p => p
  | q, .tmp t :: rs, p => .getS t fun e => (match e with
    | .one l => canLeaf [6000000, q, 0] ((Γ.can f q).headD .F) l fun l => .setS t (.one l) (canRes f (q + 1) rs p)
    | .agg ls => cond (hasSl ls) (canLeaves q 0 (Γ.can f q) ls fun ls => .setS t (.agg ls) (canRes f (q + 1) rs p)) (canRes f (q + 1) rs p)
    | .ptr k n _ _ => canBox q (Γ.can f q) k n (canRes f (q + 1) rs p)
    | _ => canRes f (q + 1) rs p)
  | q, .cell a _ :: rs, p => .getS a fun e => (match e with | .ptr k n _ _ => canBox q (Γ.can f q) k n (canRes f (q + 1) rs p) | _ => canRes f (q + 1) rs p)
def canArgs (f : FuncId) : Nat → List Arg → Prog → Prog
  | _, [], p => p
  | i, .bx _ :: as, p => canBox (1000 + i) (Γ.can f (1000 + i)) [i, bxJ] 0 (canArgs f (i + 1) as p)
  | i, _ :: as, p => canArgs f (i + 1) as p
def endProg (f : FuncId) (fn : Func) (args : List Arg) : Prog :=
  let p := canRes Γ f 0 fn.results.toList (canArgs Γ f 0 args .ret)
  cond (Γ.ret f) (frzRes fn.results.toList p) p
def retMask (fn : Func) : Nat := fn.results.foldl (fun m r => match r with | .tmp t => m ||| bit t | .cell t _ => m ||| bit t) 0
/-- parameters that own, or are variables, stay live to the end -/
def isOwn : AL → Bool | .own .. => true | _ => false
def parMask (args : List Arg) : Nat := args.zipIdx.foldl (fun m (a, i) => cond (match a with | .one l => isOwn l | .agg ls => ls.any isOwn | .bx _ => true | _ => false) (m ||| bit i) m) 0
def callE (prim : FuncId → Option (List Arg → R3 Ret)) : Nat → FuncId → List Arg → R3 Ret
  | 0, _, _ => .bad
  | n + 1, f, args =>
    match prim f with
    | some g => g args
    | none =>
      match Γ.fn f with
      | none => .bad
      | some fn =>
        match fn.body with
        | none => .bad
        | some c =>
          let fi : Fi := ⟨f, args.length, fn.ntmps, retMask fn ||| parMask args⟩
          cond (Nat.ble args.length 1000000 && Nat.ble args.length fn.ntmps) (execC Γ (callE prim n) (loopE Γ (callE prim n) fi n) fi [] fi.ret c (unpackS (startS args)) fun ctl σ => match ctl with
            | .exit _ => .bad
            | _ => (endProg Γ f fn args).run (callE prim n) σ {} fun σ _ => retOf Γ fn args σ) .bad
end ops
end Go.E

namespace Go.E
open Go

abbrev Foot := Nat → Nat → Prop
def Foot.or (A B : Foot) : Foot := fun b o => A b o ∨ B b o
def Foot.apart (A B : Foot) : Prop := ∀ b o, A b o → B b o → False
def cellAt (w : World) (b o : Nat) : Option Value := w.cell? ⟨b, o, none⟩

def Single (v : Value) : Prop := (∀ cs, v ≠ .agg cs) ∧ (∀ vs, v ≠ .tuple vs)
theorem Single.cells {v : Value} (h : Single v) : v.cells = #[v] := by
  cases v <;> first | rfl | exact absurd rfl (h.1 _)

def ScR : ST → Value → T → Prop
  | .int k, c, d => ∃ n, c = .int k n ∧ d = .i n ∧ k.min ≤ n ∧ n ≤ k.max
  | .bool, c, d => ∃ b, c = .bool b ∧ d = .b b
  | .str, c, d => ∃ s, c = .string s ∧ d = .s s ∧ s.size < 9223372036854775808
  | .any, c, d => d = .x c ∧ Single c

mutual
def LeafR (w : World) (S : Foot) : LT → Value → T → Prop
  | .sc s, c, d => ScR s c d
  | .sl es, c, d => ∃ a cap rows, d = .l rows ∧ c = .slice a rows.length cap ∧ rows.length ≤ cap ∧ rows.length ≤ maxCells ∧
      (rows = [] ∨ ∃ b o, a = some ⟨b, o, none⟩ ∧ ∀ i (h : i < rows.length), RowR w S S es b (o + i * es.length) rows[i])
def RowR (w : World) (A S : Foot) : List LT → Nat → Nat → List T → Prop
  | [], _, _, row => row = []
  | e :: es, b, o, row => ∃ d rest v, row = d :: rest ∧ A b o ∧ cellAt w b o = some v ∧ LeafR w S e v d ∧ RowR w A S es b (o + 1) rest
end

theorem ScR.single {s : ST} {c : Value} {d : T} (h : ScR s c d) : Single c := by
  cases s
  · obtain ⟨n, rfl, -⟩ := h; exact ⟨fun _ h => (nomatch h), fun _ h => (nomatch h)⟩
  · obtain ⟨n, rfl, -⟩ := h; exact ⟨fun _ h => (nomatch h), fun _ h => (nomatch h)⟩
  · obtain ⟨n, rfl, -⟩ := h; exact ⟨fun _ h => (nomatch h), fun _ h => (nomatch h)⟩
  · exact h.2
theorem LeafR.single {w : World} {S : Foot} {lt : LT} {c : Value} {d : T} (h : LeafR w S lt c d) : Single c := by
  cases lt with
  | sc s => unfold LeafR at h; exact h.single
  | sl es => unfold LeafR at h; obtain ⟨a, cap, rows, -, rfl, -⟩ := h; exact ⟨fun _ h => (nomatch h), fun _ h => (nomatch h)⟩

mutual
theorem LeafR.mono {w w' : World} {S S' : Foot} (hs : ∀ b o, S b o → S' b o) (hw : ∀ b o, S b o → cellAt w' b o = cellAt w b o) :
    ∀ (lt : LT) {c : Value} {d : T}, LeafR w S lt c d → LeafR w' S' lt c d
  | .sc s, c, d, h => by unfold LeafR at *; exact h
  | .sl es, c, d, h => by
    unfold LeafR at h ⊢
    obtain ⟨a, cap, rows, h1, h2, h3, h4, h6⟩ := h
    refine ⟨a, cap, rows, h1, h2, h3, h4, ?_⟩
    rcases h6 with h6 | ⟨b, o, ha, h6⟩
    · exact .inl h6
    · exact .inr ⟨b, o, ha, fun i hi => RowR.mono hs hw hs hw es (h6 i hi)⟩
theorem RowR.mono {w w' : World} {A A' S S' : Foot} (ha : ∀ b o, A b o → A' b o) (hwa : ∀ b o, A b o → cellAt w' b o = cellAt w b o)
    (hs : ∀ b o, S b o → S' b o) (hw : ∀ b o, S b o → cellAt w' b o = cellAt w b o) :
    ∀ (es : List LT) {b o : Nat} {row : List T}, RowR w A S es b o row → RowR w' A' S' es b o row
  | [], b, o, row, h => by unfold RowR at *; exact h
  | e :: es, b, o, row, h => by
    unfold RowR at h ⊢
    obtain ⟨d, rest, v, h1, h2, h3, h4, h5⟩ := h
    exact ⟨d, rest, v, h1, ha _ _ h2, (hwa _ _ h2).trans h3, LeafR.mono hs hw e h4, RowR.mono ha hwa hs hw es h5⟩
end

theorem keyEq_iff : ∀ (a b : Key), keyEq a b = true ↔ a = b
  | [], [] => by simp [keyEq]
  | [], _ :: _ => by simp [keyEq]
  | _ :: _, [] => by simp [keyEq]
  | a :: as, b :: bs => by simp [keyEq, keyEq_iff as bs]
theorem keyEq_self (a : Key) : keyEq a a = true := (keyEq_iff a a).2 rfl

/-! rows that are owned; variables -/
def noO (ms : List M) : Prop := ∀ m ∈ ms, ∀ x, m ≠ .O x
def Block (w : World) (b : Nat) (c : Array Value) (el : TypeId) (fz : Nat × Nat) : Prop := w.heap[b]? = some (.cells c el fz)
/-- rows, one behind the other; 'bs': the blocks that they own -/
def RowsOf (p : List Value → List T → List Nat → Prop) (sz : Nat) : List (List T) → List Value → List Nat → Prop
  | [], _, bs => bs = []
  | r :: rs, cs, bs => ∃ b1 b2, bs = b1 ++ b2 ∧ p (cs.take sz) r b1 ∧ RowsOf p sz rs (cs.drop sz) b2
mutual
/-- a cell and its data; 'bs': the blocks that it owns -/
def CellM (w : World) (I : Foot) : LT → M → Value → T → List Nat → Prop
  | .sc s, _, v, d, bs => ScR s v d ∧ bs = []
  | .sl es, .F, v, d, bs => LeafR w I (.sl es) v d ∧ bs = []
  | .sl es, .O ms, v, d, bs => ∃ rows, d = .l rows ∧ es ≠ [] ∧ rows.length ≤ maxCells ∧ (((∃ a, v = .slice a 0 0) ∧ rows = [] ∧ bs = []) ∨
      ∃ b cap c el fz bs', bs = b :: bs' ∧ v = .slice (some ⟨b, 0, none⟩) rows.length cap ∧ rows.length ≤ cap ∧ Block w b c el fz ∧ c.size = cap * es.length ∧ (∀ o, o ≤ c.size → ¬ (fz.1 ≤ o ∧ o < fz.2)) ∧
        RowsOf (fun vs ds bs => LeavesM w I es ms vs ds bs) es.length rows c.toList bs')
def LeavesM (w : World) (I : Foot) : List LT → List M → List Value → List T → List Nat → Prop
  | [], _, vs, ds, bs => vs = [] ∧ ds = [] ∧ bs = []
  | e :: es, ms, vs, ds, bs => ∃ v vs' d ds' b1 b2, vs = v :: vs' ∧ ds = d :: ds' ∧ bs = b1 ++ b2 ∧ CellM w I e (ms.headD .F) v d b1 ∧ LeavesM w I es ms.tail vs' ds' b2
end
def sizeB (w : World) (b : Nat) : Nat := match w.heap[b]? with | some (.cells c _ _) => c.size | _ => 0
/-- no block twice (but such as have no cells) -/
def NodupB (w : World) : List Nat → Prop
  | [] => True
  | b :: bs => (b ∈ bs → sizeB w b = 0) ∧ NodupB w bs
/-- the cells of blocks -/
def FB (w : World) (bs : List Nat) : Foot := fun b o => b ∈ bs ∧ o < sizeB w b
def RowOwn (w : World) (I : Foot) (es : List LT) (ms : List M) (rows : List (List T)) (h : Value) (F : Foot) : Prop :=
  ∃ bs, NodupB w bs ∧ CellM w I (.sl es) (.O ms) h (.l rows) bs ∧ ∀ b o, F b o ↔ FB w bs b o

/-- the machine's side of names: what a name's header (or address) is, and the cells it owns -/
structure Gh where
  h : Key → Value
  F : Key → Foot
  D : Foot     -- cells that are read alone while the function runs
def Live : Ch → Prop
  | .box _ => True
  | .row _ _ _ => True
  | .hob _ _ _ => True
  | .hol _ _ _ _ _ => True
  | _ => False
def depFoot (κ : Key → KE) (g : Gh) (I : Foot) (ds : List Dep) : Foot := fun b o => I b o ∨ ∃ d ∈ ds, (d.1 = dKey ∧ g.D b o) ∨ (Live (κ d.1).ch ∧ g.F d.1 b o)
def Cur (κ : Key → KE) (ds : List Dep) : Prop := ∀ d ∈ ds, (κ d.1).cv = d.2
def Old (κ : Key → KE) (ds : List Dep) : Prop := ∀ d ∈ ds, d.2 ≤ (κ d.1).cv
def isSl : LT → Prop | .sl _ => True | _ => False

/-- the address of element i, leaf off, behind a header or an address -/
def addrIn (esz : Nat) (h : Value) (i off : Nat) : Option (Nat × Nat) :=
  match h with
  | .pointer (some ⟨b, o, none⟩) => some (b, o + off)
  | .slice (some ⟨b, o, none⟩) _ _ => some (b, o + i * esz + off)
  | _ => none
def chEsz : Ch → Nat
  | .row es _ _ => es.length
  | .fz es _ => es.length
  | .hol es _ _ _ _ => es.length
  | _ => 0
def LfR (κ : Key → KE) (g : Gh) (w : World) (I : Foot) (l : Leaf) (v : Value) : Prop :=
  Single v ∧ match l.st with
  | .sc => ∃ s, l.lt = .sc s ∧ ScR s v l.d
  | .nl => isSl l.lt ∧ v = .slice none 0 0 ∧ l.d = .l []
  | .sn ds => isSl l.lt ∧ Old κ ds ∧ (Cur κ ds → LeafR w (depFoot κ g I ds) l.lt v l.d)
  | .sb k n cv r off => isSl l.lt ∧ n ≤ (κ k).idv ∧ Old κ [(k, cv)] ∧ (Cur κ [(k, cv)] → LeafR w (depFoot κ g I [(k, cv)]) l.lt v l.d ∧
      ((κ k).idv = n → ∃ b o, addrIn (chEsz (κ k).ch) (g.h k) r off = some (b, o) ∧ cellAt w b o = some v ∧ depFoot κ g I [(k, cv)] b o))
  | .al k n => isSl l.lt ∧ n ≤ (κ k).idv ∧ ((κ k).idv = n → v = g.h k)
  | .dead => True
def LfsR (κ : Key → KE) (g : Gh) (w : World) (I : Foot) : List Leaf → List Value → Prop
  | [], [] => True
  | l :: ls, v :: vs => LfR κ g w I l v ∧ LfsR κ g w I ls vs
  | _, _ => False
def Ent0R (κ : Key → KE) (g : Gh) (w : World) (I : Foot) : Ent → Value → Prop
  | .one l, v => LfR κ g w I l v
  | .agg ls, v => ∃ cs, v = .agg cs ∧ LfsR κ g w I ls cs.toList
  | .ptr k n i off, v => Single v ∧ n ≤ (κ k).idv ∧ ((κ k).idv = n → ∃ b o, v = .pointer (some ⟨b, o, none⟩) ∧ addrIn (chEsz (κ k).ch) (g.h k) i off = some (b, o))
  | .rp ds lts row, v => Single v ∧ Old κ ds ∧ (Cur κ ds → ∃ b o, v = .pointer (some ⟨b, o, none⟩) ∧ RowR w (depFoot κ g I ds) (depFoot κ g I ds) lts b o row)
  | .und, v => v = undef
  | .junk, _ => True
  | _, _ => False
def Ents0R (κ : Key → KE) (g : Gh) (w : World) (I : Foot) : List Ent → List Value → Prop
  | [], [] => True
  | l :: ls, v :: vs => Ent0R κ g w I l v ∧ Ents0R κ g w I ls vs
  | _, _ => False
def EntR (κ : Key → KE) (g : Gh) (w : World) (I : Foot) : Ent → Value → Prop
  | .tup es, v => ∃ vs, v = .tuple vs ∧ Ents0R κ g w I es vs.toList
  | .fn f caps, v => ∃ vs, v = .func (.func f) #[] vs ∧ Ents0R κ g w I caps vs.toList
  | e, v => Ent0R κ g w I e v
def BoxOwn (κ : Key → KE) (g : Gh) (w : World) (I : Foot) (ls : List Leaf) (h : Value) (F : Foot) : Prop :=
  ∃ b o c el fz, h = .pointer (some ⟨b, o, none⟩) ∧ Block w b c el fz ∧ o + ls.length ≤ c.size ∧
    (∀ j, j < ls.length → ¬ (fz.1 ≤ o + j ∧ o + j < fz.2)) ∧ (∀ b' o', F b' o' ↔ b' = b ∧ o ≤ o' ∧ o' < o + ls.length) ∧
    LfsR κ g w I ls ((c.toList.drop o).take ls.length)
/-- a variable whose first leaves are out -/
def HobOwn (κ : Key → KE) (g : Gh) (w : World) (I : Foot) (k : Key) (m j : Nat) (ls : List Leaf) (h : Value) (F : Foot) : Prop :=
  (∃ b o c el fz, h = .pointer (some ⟨b, o, none⟩) ∧ Block w b c el fz ∧ o + m + ls.length ≤ c.size ∧
    (∀ j, j < m + ls.length → ¬ (fz.1 ≤ o + j ∧ o + j < fz.2)) ∧ (∀ b' o', F b' o' ↔ b' = b ∧ o + m ≤ o' ∧ o' < o + m + ls.length) ∧
    LfsR κ g w I ls ((c.toList.drop (o + m)).take ls.length)) ∧
  j ≤ (κ (hobB k)).idv ∧ ((κ (hobB k)).idv = j → g.h (hobB k) = h)
/-- rows of which one is out -/
def HolOwn (κ : Key → KE) (g : Gh) (w : World) (I : Foot) (k : Key) (es : List LT) (ms : List M) (rows : List (List T)) (r j : Nat) (h : Value) (F : Foot) : Prop :=
  es ≠ [] ∧ rows.length ≤ maxCells ∧ r < rows.length ∧
  (∃ b cap c el fz B1 B2, h = .slice (some ⟨b, 0, none⟩) rows.length cap ∧ rows.length ≤ cap ∧ Block w b c el fz ∧ c.size = cap * es.length ∧ (∀ o, o ≤ c.size → ¬ (fz.1 ≤ o ∧ o < fz.2)) ∧
    RowsOf (fun vs ds bs => LeavesM w I es ms vs ds bs) es.length (rows.take r) c.toList B1 ∧
    RowsOf (fun vs ds bs => LeavesM w I es ms vs ds bs) es.length (rows.drop (r + 1)) (c.toList.drop ((r + 1) * es.length)) B2 ∧
    NodupB w (b :: (B1 ++ B2)) ∧ (∀ b' o', F b' o' ↔ (b' = b ∧ o' < c.size ∧ ¬ (r * es.length ≤ o' ∧ o' < (r + 1) * es.length)) ∨ FB w (B1 ++ B2) b' o') ∧
    j ≤ (κ (holB k)).idv ∧ ((κ (holB k)).idv = j → g.h (holB k) = .pointer (some ⟨b, r * es.length, none⟩)))
def ChR (κ : Key → KE) (g : Gh) (w : World) (I : Foot) (k : Key) : Ch → Prop
  | .box ls => BoxOwn κ g w I ls (g.h k) (g.F k)
  | .hob m j ls => HobOwn κ g w I k m j ls (g.h k) (g.F k)
  | .row es ms rows => RowOwn w I es ms rows (g.h k) (g.F k)
  | .hol es ms rows r j => HolOwn κ g w I k es ms rows r j (g.h k) (g.F k)
  | .fz es rows => LeafR w I (.sl es) (g.h k) (.l rows)
  | .gone => True
def isPar (np : Nat) : Key → Prop
  | i :: _ => i < np
  | [] => False
/-- what is fixed while a function runs: how many slots and parameters; the parameters' names and what they own; cells that the one who calls keeps ('A'; of them 'B' is read alone) -/
structure Fr where
  nt : Nat
  np : Nat
  big : np ≤ 1000000
  H : Key → Value
  D : Foot
  A : Foot
  B : Foot
def Im (n : Fr) (I : Foot) : Foot := fun b o => I b o ∨ n.A b o
structure RX (n : Fr) (κ : Key → KE) (g : Gh) (I : Foot) (w : World) : Prop where
  par : ∀ k, isPar n.np k → Live (κ k).ch → g.h k = n.H k
  dq : g.D = n.D
  da : ∀ b o, g.D b o → n.A b o
  frm : ∀ k, Live (κ k).ch → Foot.apart (g.F k) n.A
  awf : ∀ b o, n.A b o → ∃ v, cellAt w b o = some v
  ia : ∀ b o, I b o → n.A b o → n.B b o
structure R (n : Fr) (σ : S) (g : Gh) (I : Foot) (a : Act) (w : World) : Prop where
  size : a.tmps.size = n.nt
  nd : a.defers = []
  slots : ∀ t, EntR σ.k g w I (σ.s t) (a.tmps.getD t undef)
  chs : ∀ k, ChR σ.k g w I k (σ.k k).ch
  sep : ∀ k k', Live (σ.k k).ch → Live (σ.k k').ch → k ≠ k' → Foot.apart (g.F k) (g.F k')
  imm : ∀ k, Live (σ.k k).ch → Foot.apart (g.F k) I
  iwf : ∀ b o, I b o → ∃ v, cellAt w b o = some v
  x : RX n σ.k g I w

/-- what a step leaves as it was -/
def KeepObj (I : Foot) (b : Nat) (x y : Obj) : Prop :=
  match x with
  | .cells c el fz => ∃ c', y = .cells c' el fz ∧ c'.size = c.size ∧ ∀ o, I b o → c'[o]? = c[o]?
  | _ => y = x
structure Keeps (I : Foot) (w w' : World) : Prop where
  size : w.heap.size ≤ w'.heap.size
  obj : ∀ b x, w.heap[b]? = some x → ∃ y, w'.heap[b]? = some y ∧ KeepObj I b x y
  os : w'.os = w.os
  output : w'.output = w.output
  tape : w'.tape = w.tape

theorem KeepObj.refl (I : Foot) (b : Nat) (x : Obj) : KeepObj I b x x := by
  cases x <;> first | exact ⟨_, rfl, rfl, fun _ _ => rfl⟩ | rfl
theorem Keeps.refl (I : Foot) (w : World) : Keeps I w w := ⟨Nat.le_refl _, fun _ _ h => ⟨_, h, .refl _ _ _⟩, rfl, rfl, rfl⟩
theorem KeepObj.trans {I J : Foot} {b : Nat} {x y z : Obj} (hij : ∀ o, I b o → J b o) (h : KeepObj I b x y) (h' : KeepObj J b y z) : KeepObj I b x z := by
  cases x <;> simp only [KeepObj] at h ⊢ <;> try (subst h; simpa [KeepObj] using h')
  obtain ⟨c', rfl, h1, h2⟩ := h
  simp only [KeepObj] at h'
  obtain ⟨c'', rfl, h3, h4⟩ := h'
  exact ⟨c'', rfl, h3.trans h1, fun o ho => (h4 o (hij o ho)).trans (h2 o ho)⟩
theorem Keeps.trans {I J : Foot} {w w' w'' : World} (hij : ∀ b o, I b o → J b o) (h : Keeps I w w') (h' : Keeps J w' w'') : Keeps I w w'' :=
  ⟨Nat.le_trans h.size h'.size, fun b x hx => by
    obtain ⟨y, hy, h1⟩ := h.obj b x hx
    obtain ⟨z, hz, h2⟩ := h'.obj b y hy
    exact ⟨z, hz, h1.trans (hij b) h2⟩, h'.os.trans h.os, h'.output.trans h.output, h'.tape.trans h.tape⟩
theorem Keeps.cell {I : Foot} {w w' : World} (h : Keeps I w w') {b o : Nat} (hi : I b o) (hv : ∃ v, cellAt w b o = some v) : cellAt w' b o = cellAt w b o := by
  obtain ⟨v, hv⟩ := hv
  unfold cellAt World.cell? at hv ⊢
  simp only at hv ⊢
  cases hx : w.heap[b]? with
  | none => simp [hx] at hv
  | some x =>
    obtain ⟨y, hy, hk⟩ := h.obj b x hx
    cases x with
    | cells c el fz =>
      obtain ⟨c', rfl, -, h2⟩ := hk
      simp [hy, h2 o hi]
    | _ => simp [hx] at hv

theorem RX.step {n : Fr} {κ κ' : Key → KE} {g g' : Gh} {I I' : Foot} {w w' : World} (h : RX n κ g I w) (hk : Keeps n.A w w') (hd : g'.D = g.D)
    (hl : ∀ k, Live (κ' k).ch → (isPar n.np k → Live (κ k).ch ∧ g'.h k = g.h k ∨ g'.h k = n.H k) ∧ Foot.apart (g'.F k) n.A) (hi : ∀ b o, I' b o → I b o ∨ ¬ n.A b o) : RX n κ' g' I' w' where
  par k hp hv := by
    rcases (hl k hv).1 hp with ⟨h1, h2⟩ | h1
    · rw [h2]; exact h.par k hp h1
    · exact h1
  dq := hd.trans h.dq
  da b o hb := h.da b o (hd ▸ hb)
  frm k hv := (hl k hv).2
  awf b o ha := by
    obtain ⟨v, hv⟩ := h.awf b o ha
    exact ⟨v, (hk.cell ha ⟨v, hv⟩).trans hv⟩
  ia b o h1 h2 := (hi b o h1).elim (fun h3 => h.ia b o h3 h2) fun h3 => absurd h2 h3
/-! how things go on -/
structure Evo (κ : Key → KE) (g : Gh) (w : World) (I : Foot) (κ' : Key → KE) (g' : Gh) (w' : World) (I' : Foot) : Prop where
  cv : ∀ k, (κ k).cv ≤ (κ' k).cv
  idv : ∀ k, (κ k).idv ≤ (κ' k).idv
  foot : ∀ k, (κ' k).cv = (κ k).cv → Live (κ k).ch → ∀ b o, g.F k b o → ((Live (κ' k).ch ∧ g'.F k b o) ∨ I' b o) ∧ cellAt w' b o = cellAt w b o
  head : ∀ k, (κ' k).idv = (κ k).idv → g'.h k = g.h k ∧ chEsz (κ' k).ch = chEsz (κ k).ch
  imm : ∀ b o, I b o → I' b o ∧ cellAt w' b o = cellAt w b o
  dd : ∀ b o, g.D b o → g'.D b o ∧ cellAt w' b o = cellAt w b o

section evo
variable {κ κ' : Key → KE} {g g' : Gh} {w w' : World} {I I' : Foot}
theorem Evo.cur (e : Evo κ g w I κ' g' w' I') {ds : List Dep} (ho : Old κ ds) (hc : Cur κ' ds) : Cur κ ds := fun d hd => by
  have h1 := e.cv d.1; have h2 := ho d hd; have h3 := hc d hd; omega
theorem Evo.old (e : Evo κ g w I κ' g' w' I') {ds : List Dep} (ho : Old κ ds) : Old κ' ds := fun d hd => Nat.le_trans (ho d hd) (e.cv d.1)
theorem Evo.dep (e : Evo κ g w I κ' g' w' I') {ds : List Dep} (ho : Old κ ds) (hc : Cur κ' ds) :
    ∀ b o, depFoot κ g I ds b o → depFoot κ' g' I' ds b o ∧ cellAt w' b o = cellAt w b o := by
  intro b o h
  rcases h with h | ⟨d, hd, ⟨hk, hf⟩ | ⟨hl, hf⟩⟩
  · exact ⟨.inl (e.imm b o h).1, (e.imm b o h).2⟩
  · exact ⟨.inr ⟨d, hd, .inl ⟨hk, (e.dd b o hf).1⟩⟩, (e.dd b o hf).2⟩
  · have h1 := e.cur ho hc d hd
    obtain ⟨h2, h3⟩ := e.foot d.1 ((hc d hd).trans h1.symm) hl b o hf
    exact ⟨h2.elim (fun h => .inr ⟨d, hd, .inr h⟩) .inl, h3⟩
theorem Evo.leaf (e : Evo κ g w I κ' g' w' I') {lt : LT} {v : Value} {d : T} (h : LeafR w I lt v d) : LeafR w' I' lt v d :=
  LeafR.mono (fun b o h => (e.imm b o h).1) (fun b o h => (e.imm b o h).2) lt h
theorem Evo.lf (e : Evo κ g w I κ' g' w' I') {l : Leaf} {v : Value} (h : LfR κ g w I l v) : LfR κ' g' w' I' l v := by
  obtain ⟨hs, h⟩ := h
  refine ⟨hs, ?_⟩
  cases hst : l.st with
  | sc => simpa [hst] using h
  | nl => simpa [hst] using h
  | sn ds =>
    simp only [hst] at h ⊢
    obtain ⟨h1, h2, h3⟩ := h
    exact ⟨h1, e.old h2, fun hc => LeafR.mono (fun b o hb => (e.dep h2 hc b o hb).1) (fun b o hb => (e.dep h2 hc b o hb).2) _ (h3 (e.cur h2 hc))⟩
  | al k n =>
    simp only [hst] at h ⊢
    obtain ⟨h1, h2, h3⟩ := h
    have := e.idv k
    refine ⟨h1, Nat.le_trans h2 this, fun hc => ?_⟩
    have h4 : (κ k).idv = n := by omega
    rw [(e.head k (hc.trans h4.symm)).1]; exact h3 h4
  | sb k n cv r off =>
    simp only [hst] at h ⊢
    obtain ⟨h1, h2, h3, h4⟩ := h
    refine ⟨h1, Nat.le_trans h2 (e.idv k), e.old h3, fun hc => ?_⟩
    obtain ⟨h5, h6⟩ := h4 (e.cur h3 hc)
    refine ⟨LeafR.mono (fun b o hb => (e.dep h3 hc b o hb).1) (fun b o hb => (e.dep h3 hc b o hb).2) _ h5, fun hi => ?_⟩
    have h7 : (κ k).idv = n := by have := e.idv k; omega
    obtain ⟨b, o, h8, h9, h10⟩ := h6 h7
    obtain ⟨h11, h12⟩ := e.head k (hi.trans h7.symm)
    exact ⟨b, o, by rw [h11, h12]; exact h8, (e.dep h3 hc b o h10).2.trans h9, (e.dep h3 hc b o h10).1⟩
  | dead => trivial
theorem Evo.lfs (e : Evo κ g w I κ' g' w' I') : ∀ {ls : List Leaf} {vs : List Value}, LfsR κ g w I ls vs → LfsR κ' g' w' I' ls vs
  | [], [], _ => trivial
  | _ :: _, _ :: _, h => ⟨e.lf h.1, e.lfs h.2⟩
  | [], _ :: _, h => h.elim
  | _ :: _, [], h => h.elim
theorem Evo.ent0 (e : Evo κ g w I κ' g' w' I') {x : Ent} {v : Value} (h : Ent0R κ g w I x v) : Ent0R κ' g' w' I' x v := by
  cases x with
  | one l => exact e.lf h
  | agg ls => obtain ⟨cs, h1, h2⟩ := h; exact ⟨cs, h1, e.lfs h2⟩
  | ptr k n i off =>
    obtain ⟨h0, h1, h2⟩ := h
    have := e.idv k
    refine ⟨h0, Nat.le_trans h1 this, fun hc => ?_⟩
    have h4 : (κ k).idv = n := by omega
    obtain ⟨h5, h6⟩ := e.head k (hc.trans h4.symm)
    rw [h5, h6]; exact h2 h4
  | rp ds lts row =>
    obtain ⟨h0, h1, h2⟩ := h
    refine ⟨h0, e.old h1, fun hc => ?_⟩
    obtain ⟨b, o, h3, h4⟩ := h2 (e.cur h1 hc)
    exact ⟨b, o, h3, RowR.mono (fun b o hb => (e.dep h1 hc b o hb).1) (fun b o hb => (e.dep h1 hc b o hb).2) (fun b o hb => (e.dep h1 hc b o hb).1) (fun b o hb => (e.dep h1 hc b o hb).2) _ h4⟩
  | und => exact h
  | junk => trivial
  | tup _ => exact h.elim
  | fn _ _ => exact h.elim
theorem Evo.ents0 (e : Evo κ g w I κ' g' w' I') : ∀ {ls : List Ent} {vs : List Value}, Ents0R κ g w I ls vs → Ents0R κ' g' w' I' ls vs
  | [], [], _ => trivial
  | _ :: _, _ :: _, h => ⟨e.ent0 h.1, e.ents0 h.2⟩
  | [], _ :: _, h => h.elim
  | _ :: _, [], h => h.elim
theorem Evo.ent (e : Evo κ g w I κ' g' w' I') {x : Ent} {v : Value} (h : EntR κ g w I x v) : EntR κ' g' w' I' x v := by
  cases x with
  | tup es => obtain ⟨vs, h1, h2⟩ := h; exact ⟨vs, h1, e.ents0 h2⟩
  | fn f es => obtain ⟨vs, h1, h2⟩ := h; exact ⟨vs, h1, e.ents0 h2⟩
  | one l => exact e.ent0 (x := .one l) h
  | agg l => exact e.ent0 (x := .agg l) h
  | ptr k n i off => exact e.ent0 (x := .ptr k n i off) h
  | rp ds lts row => exact e.ent0 (x := .rp ds lts row) h
  | und => exact h
  | junk => trivial
theorem Evo.refl : Evo κ g w I κ g w I :=
  ⟨fun _ => Nat.le_refl _, fun _ => Nat.le_refl _, fun _ _ hl _ _ hf => ⟨.inl ⟨hl, hf⟩, rfl⟩, fun _ _ => ⟨rfl, rfl⟩, fun _ _ h => ⟨h, rfl⟩, fun _ _ h => ⟨h, rfl⟩⟩
theorem Evo.trans {κ'' : Key → KE} {g'' : Gh} {w'' : World} {I'' : Foot} (e : Evo κ g w I κ' g' w' I') (e' : Evo κ' g' w' I' κ'' g'' w'' I'') :
    Evo κ g w I κ'' g'' w'' I'' where
  cv k := Nat.le_trans (e.cv k) (e'.cv k)
  idv k := Nat.le_trans (e.idv k) (e'.idv k)
  foot k hc hl b o hf := by
    have h1 := e.cv k; have h2 := e'.cv k
    obtain ⟨h3, h4⟩ := e.foot k (by omega) hl b o hf
    rcases h3 with ⟨h5, h6⟩ | h5
    · obtain ⟨h7, h8⟩ := e'.foot k (by omega) h5 b o h6
      exact ⟨h7, h8.trans h4⟩
    · exact ⟨.inr (e'.imm b o h5).1, (e'.imm b o h5).2.trans h4⟩
  head k hc := by
    have h1 := e.idv k; have h2 := e'.idv k
    obtain ⟨h3, h4⟩ := e.head k (by omega)
    obtain ⟨h5, h6⟩ := e'.head k (by omega)
    exact ⟨h5.trans h3, h6.trans h4⟩
  imm b o h := ⟨(e'.imm b o (e.imm b o h).1).1, (e'.imm b o (e.imm b o h).1).2.trans (e.imm b o h).2⟩
  dd b o h := ⟨(e'.dd b o (e.dd b o h).1).1, (e'.dd b o (e.dd b o h).1).2.trans (e.dd b o h).2⟩
end evo
end Go.E


namespace Go.E
open Go

/-- what must hold behind a local program -/
def Prog.wp (cf : FuncId → List Arg → R3 Ret) : Prog → S → Tr → (S → Tr → Prop) → Prop
  | .ret, σ, tr, Q => Q σ tr
  | .fail, _, _, _ => False
  | .out, _, _, _ => True
  | .chk c p, σ, tr, Q => c = true ∧ p.wp cf σ tr Q
  | .lim c p, σ, tr, Q => c = true → p.wp cf σ tr Q
  | .br c p q, σ, tr, Q => if c then p.wp cf σ tr Q else q.wp cf σ tr Q
  | .getS t k, σ, tr, Q => (k (σ.s t)).wp cf σ { tr with rs := t :: tr.rs } Q
  | .setS t e p, σ, tr, Q => p.wp cf (σ.setS t e) { tr with ws := t :: tr.ws } Q
  | .getK k c, σ, tr, Q => (c (σ.k k)).wp cf σ { tr with rk := k :: tr.rk } Q
  | .setK k e p, σ, tr, Q => p.wp cf (σ.setK k e) { tr with wk := k :: tr.wk } Q
  | .call f args k, σ, tr, Q => match cf f args with
    | .ok r => (k r).wp cf σ tr Q
    | .out => True
    | .bad => False

theorem Prog.wp_of_run {cf : FuncId → List Arg → R3 Ret} {α : Type} : ∀ (p : Prog) (σ : S) (tr : Tr) (K : S → Tr → R3 α),
    p.run cf σ tr K ≠ .bad → p.wp cf σ tr fun σ tr => K σ tr ≠ .bad
  | .ret, σ, tr, K, h => h
  | .fail, _, _, _, h => (h rfl).elim
  | .out, _, _, _, _ => trivial
  | .chk c p, σ, tr, K, h => by
    cases c
    · exact (h rfl).elim
    · exact ⟨rfl, Prog.wp_of_run p σ tr K h⟩
  | .lim c p, σ, tr, K, h => fun _ => Prog.wp_of_run p σ tr K h
  | .br c p q, σ, tr, K, h => by
    cases c
    · exact Prog.wp_of_run q σ tr K h
    · exact Prog.wp_of_run p σ tr K h
  | .getS t k, σ, tr, K, h => Prog.wp_of_run (k (σ.s t)) σ _ K h
  | .setS t e p, σ, tr, K, h => Prog.wp_of_run p _ _ K h
  | .getK k c, σ, tr, K, h => Prog.wp_of_run (c (σ.k k)) σ _ K h
  | .setK k e p, σ, tr, K, h => Prog.wp_of_run p _ _ K h
  | .call f args k, σ, tr, K, h => by
    simp only [Prog.run, R3.bind] at h
    simp only [Prog.wp]
    cases hc : cf f args with
    | ok r => simp only [hc] at h; exact Prog.wp_of_run (k r) σ tr K h
    | out => trivial
    | bad => simp [hc] at h
theorem Prog.wp_mono {cf : FuncId → List Arg → R3 Ret} {Q Q' : S → Tr → Prop} (hq : ∀ σ tr, Q σ tr → Q' σ tr) : ∀ (p : Prog) (σ : S) (tr : Tr),
    p.wp cf σ tr Q → p.wp cf σ tr Q'
  | .ret, σ, tr, h => hq _ _ h
  | .fail, _, _, h => h
  | .out, _, _, _ => trivial
  | .chk c p, σ, tr, h => ⟨h.1, Prog.wp_mono hq p σ tr h.2⟩
  | .lim c p, σ, tr, h => fun hc => Prog.wp_mono hq p σ tr (h hc)
  | .br c p q, σ, tr, h => by
    cases c
    · exact Prog.wp_mono hq q σ tr (by simpa [Prog.wp] using h)
    · exact Prog.wp_mono hq p σ tr (by simpa [Prog.wp] using h)
  | .getS t k, σ, tr, h => Prog.wp_mono hq (k (σ.s t)) σ _ h
  | .setS t e p, σ, tr, h => Prog.wp_mono hq p _ _ h
  | .getK k c, σ, tr, h => Prog.wp_mono hq (c (σ.k k)) σ _ h
  | .setK k e p, σ, tr, h => Prog.wp_mono hq p _ _ h
  | .call f args k, σ, tr, h => by
    simp only [Prog.wp] at h ⊢
    cases hc : cf f args with
    | ok r => simp only [hc] at h ⊢; exact Prog.wp_mono hq (k r) σ tr h
    | out => trivial
    | bad => simp [hc] at h

/-! what the table says of the program -/
def zeroV : LT → Value → Prop
  | .sc (.int k), v => v = .int k 0
  | .sc .bool, v => v = .bool false
  | .sc .str, v => v = .string .empty
  | .sc .any, v => Single v
  | .sl _, v => v = .slice none 0 0
def zeroVs : List LT → List Value → Prop
  | [], [] => True
  | l :: ls, v :: vs => zeroV l v ∧ zeroVs ls vs
  | _, _ => False
def KindOk (Γ : Ctx) (P : Program) (ti : TI) : TK → TypeDesc → Prop
  | .sc (.int k), d => d = .int k ∧ ti.lts = [.sc (.int k)]
  | .sc .bool, d => d = .bool ∧ ti.lts = [.sc .bool]
  | .sc .str, d => d = .string ∧ ti.lts = [.sc .str]
  | .sc .any, _ => False
  | .slice e, d => d = .slice e ∧ ∃ te, Γ.ty e = some te ∧ ti.lts = [.sl te.lts] ∧ te.lts ≠ []
  | .struct fs, d => ∃ fields, d = .struct fields ∧ fs = fields.toList.map (fun f => (f.offset, f.type)) ∧
      ∀ f ∈ fields.toList, ∃ i, P.info? f.type = some i ∧ i.size ≠ 0
  | .array n e, d => d = .array n e
  | .ptr e, d => d = .pointer e ∧ ti.lts = [.sc .any]
  | .other, d => (∀ fs, d ≠ .struct fs) ∧ (∀ n e, d ≠ .array n e) ∧ ti.lts = [.sc .any]
def FlatFs (P : Program) : Nat → List Field → List LT → Prop
  | _, [], [] => True
  | j, f :: fs, lt :: lts => f.name ≠ "_" ∧ f.offset = j ∧ (match lt with
      | .sc (.int k) => P.underlying f.type = some (.int k)
      | .sc .bool => P.underlying f.type = some .bool
      | .sc .str => P.underlying f.type = some .string
      | _ => False) ∧ FlatFs P (j + 1) fs lts
  | _, _, _ => False
def FlatOk (P : Program) (t : TypeId) (lts : List LT) : Prop :=
  ∃ fields, P.underlying t = some (.struct fields) ∧ P.stoodInHeld t = false ∧ P.eqGuardType P.depth t = false ∧ FlatFs P 0 fields.toList lts
structure TyOk (Γ : Ctx) (P : Program) (t : TypeId) (ti : TI) : Prop where
  und : ∃ d, P.underlying t = some d ∧ KindOk Γ P ti ti.kind d
  flat : ti.flat = true → FlatOk P t ti.lts
  info : ∃ i, P.info? t = some i ∧ i.size = ti.lts.length ∧ ti.bytes = i.bytes ∧ ti.lts.length ≤ i.bytes ∧ i.bytes ≤ 24 * ti.lts.length ∧ ∃ z, i.zero = some z ∧ zeroVs ti.lts z.cells.toList
structure CtxOk (Γ : Ctx) (P : Program) : Prop where
  ty : ∀ t ti, Γ.ty t = some ti → TyOk Γ P t ti
  fn : ∀ f fn, Γ.fn f = some fn → P.funcs[f]? = some fn
  enter : ∀ f fn, Γ.fn f = some fn → fn.body.isNone = false ∧ (fn.name == "runtime.NumGoroutine") = false
  mixed : P.follows .mixedOrders = true


theorem dst_ok {np nt : Nat} {o : Oper} {d : Nat} (hd : dstOk np nt o = true) (h : o.dst = some d) : d < nt ∧ (np ≤ 1000000 → ∀ r, ¬ isPar np ((d + 2000000) :: r)) := by
  unfold dstOk at hd
  rw [h] at hd
  have h2 : d < nt := by simpa [Nat.blt_eq] using hd
  exact ⟨h2, fun hb r hr => by simp only [isPar] at hr; omega⟩

/-! one operation -/
def Goal (P : Program) (o : Oper) (a : Act) (w : World) (K : Act → World → Prop) (Q : Exit → Act → World → Prop) : Prop :=
  o.wp P a w K Q ∨ (o.asks P a w ∧ LetsOut Q)
theorem goal_value {P : Program} {o : Oper} {a : Act} {w w' : World} {K : Act → World → Prop} {Q : Exit → Act → World → Prop} {v : Value}
    (h : (execOp a.eval o).run P w = .ok (.value v) w') (hk : K (a.put o.dst v) w') : Goal P o a w K Q := by
  refine .inl ?_
  unfold Oper.wp
  rw [h]
  exact hk
theorem goal_skip {P : Program} {o : Oper} {a : Act} {w w' : World} {K : Act → World → Prop} {Q : Exit → Act → World → Prop}
    (h : (execOp a.eval o).run P w = .ok .skip w') (hk : K (a.put o.dst undef) w') : Goal P o a w K Q := by
  refine .inl ?_
  unfold Oper.wp
  rw [h]
  exact hk

section run
variable {Γ : Ctx} {P : Program} {w : World} {t : TypeId} {ti : TI}
theorem run_underlying {d : TypeDesc} (h : P.underlying t = some d) : (underlying t).run P w = .ok d w := by
  simp [underlying, h, go_sem]
end run

section slots
variable {n : Fr} {σ : S} {g : Gh} {I : Foot} {a : Act} {w : World}
theorem getD_set (xs : Array Value) (i j : Nat) (v u : Value) (hi : i < xs.size) : (xs.setIfInBounds i v).getD j u = if j = i then v else xs.getD j u := by
  by_cases h : j = i
  · subst h; simp [hi]
  · simp [h, Array.getElem?_setIfInBounds_ne (Ne.symm h)]
/-- a slot gets a value; nothing else turns -/
theorem R.put (hR : R n σ g I a w) {d : Nat} (hd : d < n.nt) {e : Ent} {v : Value} (he : EntR σ.k g w I e v) :
    R n (σ.setS d e) g I (a.put (some d) v) w where
  size := by simp [Act.put, hR.size]
  nd := hR.nd
  slots t := by
    have h1 : (a.put (some d) v).tmps.getD t undef = if t = d then v else a.tmps.getD t undef := getD_set _ _ _ _ _ (by rw [hR.size]; exact hd)
    rw [h1]
    by_cases h : t = d
    · subst h
      simp only [S.setS, Nat.beq_refl, cond_true, if_true]
      exact he
    · have h2 : Nat.beq t d = false := by cases hb : Nat.beq t d; rfl; exact absurd (Nat.eq_of_beq_eq_true hb) h
      simp only [S.setS, h2, cond_false, if_neg h]
      exact hR.slots t
  chs := hR.chs
  sep := hR.sep
  imm := hR.imm
  iwf := hR.iwf
  x := hR.x
end slots
end Go.E

namespace Go.E
open Go

section
variable {Γ : Ctx} {P : Program} {cf : FuncId → List Arg → R3 Ret}
variable {n : Fr} {σ : S} {g : Gh} {I : Foot} {a : Act} {w : World}

/-- what the rest of a step may count on -/
def Post (P : Program) (n : Fr) (I : Foot) (w : World) (Q : S → Tr → Prop) (K : Act → World → Prop) : Prop :=
  ∀ σ' tr' g' I' a' w', Q σ' tr' → R n σ' g' I' a' w' → (∀ b o, I b o → I' b o) → Keeps (Im n I) w w' → K a' w'

/-! operands -/
theorem single_of {v : Value} (h : ∀ cs, v ≠ .agg cs) (h' : ∀ vs, v ≠ .tuple vs) : Single v := ⟨h, h'⟩
theorem litLeaf_ok {v : Value} {l : Leaf} (κ : Key → KE) (h : litLeaf v = some l) : LfR κ g w I l v := by
  unfold litLeaf at h
  split at h
  · cases h; exact ⟨⟨fun _ h => (nomatch h), fun _ h => (nomatch h)⟩, .bool, rfl, _, rfl, rfl⟩
  · split at h
    · rename_i hh; cases h; exact ⟨⟨fun _ h => (nomatch h), fun _ h => (nomatch h)⟩, .int _, rfl, _, rfl, rfl, hh⟩
    · cases h
  · split at h
    · rename_i hh; cases h; exact ⟨⟨fun _ h => (nomatch h), fun _ h => (nomatch h)⟩, .str, rfl, _, rfl, rfl, hh⟩
    · cases h
  · cases h; exact ⟨⟨fun _ h => (nomatch h), fun _ h => (nomatch h)⟩, trivial, rfl, rfl⟩
  · cases h
theorem litLeaves_ok (κ : Key → KE) : ∀ {vs : List Value} {ls : List Leaf}, vs.mapM litLeaf = some ls → LfsR κ g w I ls vs
  | [], ls, h => by simp at h; subst h; trivial
  | v :: vs, ls, h => by
    simp only [List.mapM_cons, Option.bind_eq_bind, Option.bind_eq_some_iff, Option.pure_def, Option.some.injEq] at h
    obtain ⟨l, h1, ls', h2, rfl⟩ := h
    exact ⟨litLeaf_ok κ h1, litLeaves_ok κ h2⟩
theorem rd_wp {x : Operand} {k : Ent → Prog} {tr : Tr} {Q : S → Tr → Prop} (hR : R n σ g I a w) (h : (rd x k).wp cf σ tr Q) :
    ∃ e tr', EntR σ.k g w I e (a.eval x) ∧ (k e).wp cf σ tr' Q := by
  unfold rd at h
  split at h
  · exact ⟨_, _, hR.slots _, h⟩
  · exact ⟨.junk, tr, trivial, h⟩
  · unfold ofOpt at h
    split at h
    · rename_i ls hl; exact ⟨.agg ls, tr, ⟨_, rfl, litLeaves_ok _ hl⟩, h⟩
    · exact h.elim
  · unfold ofOpt at h
    split at h
    · rename_i l hl; exact ⟨.one l, tr, litLeaf_ok _ hl, h⟩
    · exact h.elim
  · rename_i f; exact ⟨.fn f [], tr, ⟨#[], rfl, trivial⟩, h⟩
  · exact h.elim
theorem ofOpt_wp {α : Type} {o : Option α} {k : α → Prog} {tr : Tr} {Q : S → Tr → Prop} (h : (ofOpt o k).wp cf σ tr Q) :
    ∃ x, o = some x ∧ (k x).wp cf σ tr Q := by
  unfold ofOpt at h
  split at h
  · exact ⟨_, rfl, h⟩
  · exact h.elim
theorem scal_wp {e : Ent} {k : ST → T → Prog} {tr : Tr} {Q : S → Tr → Prop} {v : Value} (he : EntR σ.k g w I e v) (h : (scal e k).wp cf σ tr Q) :
    ∃ s d, e = .one ⟨.sc, .sc s, d⟩ ∧ ScR s v d ∧ (k s d).wp cf σ tr Q := by
  unfold scal at h
  split at h
  · obtain ⟨-, s', hs, hv⟩ := he
    cases hs
    exact ⟨_, _, rfl, hv, h⟩
  · exact h.elim
theorem one1_wp {e : Ent} {k : Leaf → Prog} {tr : Tr} {Q : S → Tr → Prop} {v : Value} (he : EntR σ.k g w I e v) (h : (one1 e k).wp cf σ tr Q) :
    ∃ l, e = .one l ∧ LfR σ.k g w I l v ∧ (k l).wp cf σ tr Q := by
  unfold one1 at h
  split at h
  · exact ⟨_, rfl, he, h⟩
  · exact h.elim

/-- the end of a step that yields a value and leaves the world -/
theorem end_put {o : Oper} {e : Ent} {v : Value} {tr : Tr} {Q : S → Tr → Prop} {K : Act → World → Prop} {Qm : Exit → Act → World → Prop}
    (hd : dstOk n.np n.nt o = true) (hR : R n σ g I a w) (hK : Post P n I w Q K)
    (hrun : (execOp a.eval o).run P w = .ok (.value v) w) (he : EntR σ.k g w I e v) (h : (put o.dst e).wp cf σ tr Q) : Goal P o a w K Qm := by
  refine goal_value hrun ?_
  unfold put at h
  cases hds : o.dst with
  | none =>
    simp only [hds] at h ⊢
    exact hK _ _ g I _ _ h hR (fun _ _ h => h) (Keeps.refl _ _)
  | some d =>
    simp only [hds] at h ⊢
    exact hK _ _ g I _ _ h (hR.put (dst_ok hd hds).1 he) (fun _ _ h => h) (Keeps.refl _ _)
theorem end_sc {o : Oper} {s : ST} {d : T} {v : Value} {tr : Tr} {Q : S → Tr → Prop} {K : Act → World → Prop} {Qm : Exit → Act → World → Prop}
    (hd : dstOk n.np n.nt o = true) (hR : R n σ g I a w) (hK : Post P n I w Q K)
    (hrun : (execOp a.eval o).run P w = .ok (.value v) w) (he : ScR s v d) (h : (putSc o.dst s d).wp cf σ tr Q) : Goal P o a w K Qm :=
  end_put hd hR hK hrun (e := .one ⟨.sc, .sc s, d⟩) ⟨he.single, s, rfl, he⟩ h

end
end Go.E

namespace Go.E
open Go

theorem wrap_range (k : IntKind) (x : Int) : k.min ≤ k.wrap x ∧ k.wrap x ≤ k.max := by
  have e8 : (2 : Int) ^ 8 = 256 := by decide
  have e7 : (2 : Int) ^ 7 = 128 := by decide
  have e16 : (2 : Int) ^ 16 = 65536 := by decide
  have e15 : (2 : Int) ^ 15 = 32768 := by decide
  have e32 : (2 : Int) ^ 32 = 4294967296 := by decide
  have e31 : (2 : Int) ^ 31 = 2147483648 := by decide
  have e64 : (2 : Int) ^ 64 = 18446744073709551616 := by decide
  have e63 : (2 : Int) ^ 63 = 9223372036854775808 := by decide
  cases k <;> simp only [IntKind.wrap, IntKind.min, IntKind.max, IntKind.bits, IntKind.signed, Bool.true_and, Bool.false_and, if_true, Bool.false_eq_true, if_false, Nat.reduceSub, e8, e7, e16, e15, e32, e31, e64, e63, decide_eq_true_eq] <;> (try split) <;> omega
theorem sc_int {k : IntKind} {x : Int} : ScR (.int k) (.int k (k.wrap x)) (.i (k.wrap x)) := ⟨_, rfl, rfl, (wrap_range k x).1, (wrap_range k x).2⟩
theorem sc_bool {b : Bool} : ScR .bool (.bool b) (.b b) := ⟨_, rfl, rfl⟩
theorem kmin_neg (k : IntKind) : k.min ≤ 0 ∧ 0 ≤ k.max := by
  cases k <;> simp [IntKind.min, IntKind.max, IntKind.bits, IntKind.signed]
theorem tmod_range {k : IntKind} {x y : Int} (h : k.min ≤ x ∧ x ≤ k.max) : k.min ≤ x.tmod y ∧ x.tmod y ≤ k.max := by
  have h0 := kmin_neg k
  have h1 : (x.tmod y).natAbs ≤ x.natAbs := by rw [Int.natAbs_tmod]; exact Nat.mod_le _ _
  rcases Int.le_total 0 x with hx | hx
  · have h2 := Int.tmod_nonneg y hx
    omega
  · have h3 := Int.tmod_nonneg y (show 0 ≤ -x by omega)
    rw [Int.neg_tmod] at h3
    omega
theorem fdiv_range {k : IntKind} {x : Int} {m : Nat} (h : k.min ≤ x ∧ x ≤ k.max) : k.min ≤ x.fdiv (2 ^ m) ∧ x.fdiv (2 ^ m) ≤ k.max := by
  have h0 := kmin_neg k
  have hp : (0 : Int) < 2 ^ m := Int.pow_pos (by decide)
  rw [Int.fdiv_eq_ediv_of_nonneg _ (by omega)]
  rcases Int.le_total 0 x with hx | hx
  · have h2 := Int.ediv_nonneg hx (show (0 : Int) ≤ 2 ^ m by omega)
    have h3 := Int.ediv_le_self (2 ^ m) hx
    omega
  · have h2 : x ≤ x / 2 ^ m := by
      rw [Int.le_ediv_iff_mul_le hp]
      have h1 : (0 : Int) ≤ 2 ^ m - 1 := by omega
      have := Int.mul_nonneg (show 0 ≤ -x by omega) h1
      have e : -x * (2 ^ m - 1) = x - x * 2 ^ m := by rw [Int.mul_sub, Int.neg_mul]; omega
      omega
    have h3 : x / 2 ^ m ≤ 0 := by
      have := Int.ediv_le_ediv hp hx
      simpa using this
    omega

section
variable {P : Program} {w : World} {ρ : Operand → Value} {o : Oper}
theorem run_move {x : Operand} (hop : o.op = .move x ∨ o.op = .assign x) : (execOp ρ o).run P w = .ok (.value (ρ x)) w := by
  rcases hop with hop | hop <;> simp [execOp, hop, go_sem]
theorem run_pick {c x y : Operand} {b : Bool} (hop : o.op = .pick c x y) (hb : ρ c = .bool b) :
    (execOp ρ o).run P w = .ok (.value (if b = true then ρ x else ρ y)) w := by
  simp [execOp, hop, hb, asBool, go_sem]
theorem run_nilCheck {x : Operand} {b o' : Nat} (hop : o.op = .nilCheck x) (hv : ρ x = .pointer (some ⟨b, o', none⟩)) :
    (execOp ρ o).run P w = .ok (.value (ρ x)) w := by
  simp [execOp, hop, hv, go_sem]
theorem run_extract {x : Operand} {i : Nat} {vs : Array Value} {v : Value} (hop : o.op = .extract x i) (hv : ρ x = .tuple vs) (h : vs[i]? = some v) :
    (execOp ρ o).run P w = .ok (.value v) w := by
  simp [execOp, hop, hv, Instr.extract, h, go_sem]
end

section
variable {Γ : Ctx} {P : Program} {cf : FuncId → List Arg → R3 Ret}
variable {n : Fr} {σ : S} {g : Gh} {I : Foot} {a : Act} {w : World}

theorem retype_ok (κ : Key → KE) : ∀ {lts : List LT} {ls : List Leaf} {vs : List Value}, LfsR κ g w I ls vs → LfsR κ g w I (retype lts ls) vs
  | [], ls, vs, h => by unfold retype; exact h
  | lt :: lts, [], vs, h => by unfold retype; exact h
  | lt :: lts, l :: ls, [], h => h.elim
  | lt :: lts, l :: ls, v :: vs, h => by
    unfold retype
    refine ⟨?_, retype_ok κ h.2⟩
    split
    · rename_i e1
      obtain ⟨h1, h2⟩ := h.1
      refine ⟨h1, ?_⟩
      simp only [e1] at h2 ⊢
      exact ⟨trivial, h2.2⟩
    · exact h.1
theorem oneOrFail_ok {κ : Key → KE} {ls : List Leaf} {v : Value} (h : LfsR κ g w I ls [v]) : EntR κ g w I (oneOrFail ls) v := by
  unfold oneOrFail
  split
  · exact h.1
  · trivial
theorem mkEnt_ok {κ : Key → KE} {ls : List Leaf} {cs : Array Value} (h : LfsR κ g w I ls cs.toList) : EntR κ g w I (mkEnt true ls) (.agg cs) := ⟨cs, rfl, h⟩
theorem mkEnt_ok1 {κ : Key → KE} {ls : List Leaf} {v : Value} (h : LfsR κ g w I ls [v]) : EntR κ g w I (mkEnt false ls) v := by
  unfold mkEnt
  simp only [cond_false]
  split
  · exact h.1
  · trivial

theorem tyOf_wp {t : TypeId} {k : TI → Prog} {tr : Tr} {Q : S → Tr → Prop} (hΓ : CtxOk Γ P) (h : (tyOf Γ t k).wp cf σ tr Q) :
    ∃ ti, Γ.ty t = some ti ∧ TyOk Γ P t ti ∧ (k ti).wp cf σ tr Q := by
  obtain ⟨ti, h1, h2⟩ := ofOpt_wp h
  exact ⟨ti, h1, hΓ.ty t ti h1, h2⟩

variable {o : Oper} {f : FuncId} {tr : Tr} {Q : S → Tr → Prop} {K : Act → World → Prop} {Qm : Exit → Act → World → Prop}

theorem retypeEnt_ok {lts : List LT} {κ : Key → KE} {e : Ent} {v : Value} (h : EntR κ g w I e v) : EntR κ g w I (retypeEnt lts e) v := by
  unfold retypeEnt
  split
  · exact oneOrFail_ok (retype_ok _ ⟨h, trivial⟩)
  · obtain ⟨cs, h3, h4⟩ := h
    exact ⟨cs, h3, retype_ok _ h4⟩
  · exact h

theorem canB_eq {s : ST} {d : T} {v : Value} (h : ScR s v d) : canB s d = d := by
  cases s <;> first | rfl | skip
  obtain ⟨b, -, rfl⟩ := h
  rfl
theorem op_pick (hd : dstOk n.np n.nt o = true) (hR : R n σ g I a w) (hK : Post P n I w Q K) {c x y : Operand} (hop : o.op = .pick c x y)
    (h : (opStep Γ f o).wp cf σ tr Q) : Goal P o a w K Qm := by
  simp only [opStep, hop] at h
  obtain ⟨ec, t1, hc, h⟩ := rd_wp hR h
  obtain ⟨ex, t2, hx, h⟩ := rd_wp hR h
  obtain ⟨ey, t3, hy, h⟩ := rd_wp hR h
  obtain ⟨s, d, rfl, hv, h⟩ := scal_wp hc h
  split at h
  · obtain ⟨b, hb, rfl⟩ := hv
    have hrun := run_pick (P := P) (w := w) (ρ := a.eval) hop hb
    simp only [Prog.wp, T.bool] at h
    cases b
    · simp only [Bool.false_eq_true, if_false] at h hrun
      obtain ⟨s, d, rfl, hv, h⟩ := scal_wp hy h
      rw [canB_eq hv] at h
      exact end_sc hd hR hK hrun hv h
    · simp only [if_true] at h hrun
      obtain ⟨s, d, rfl, hv, h⟩ := scal_wp hx h
      rw [canB_eq hv] at h
      exact end_sc hd hR hK hrun hv h
  · exact h.elim

theorem depsOk_wp {ds : List Dep} {p : Prog} : ∀ {tr : Tr}, (depsOk ds p).wp cf σ tr Q → Cur σ.k ds ∧ ∃ tr', p.wp cf σ tr' Q := by
  induction ds with
  | nil => intro tr h; exact ⟨fun _ h => (nomatch h), tr, h⟩
  | cons d ds ih =>
    intro tr h
    obtain ⟨k, m⟩ := d
    obtain ⟨h1, h2⟩ := h
    obtain ⟨h3, h4⟩ := ih h2
    refine ⟨fun x hx => ?_, h4⟩
    rcases List.mem_cons.1 hx with rfl | hx
    · exact Nat.eq_of_beq_eq_true h1
    · exact h3 x hx
theorem op_nilCheck (hd : dstOk n.np n.nt o = true) (hR : R n σ g I a w) (hK : Post P n I w Q K) {x : Operand} (hop : o.op = .nilCheck x)
    (h : (opStep Γ f o).wp cf σ tr Q) : Goal P o a w K Qm := by
  simp only [opStep, hop] at h
  obtain ⟨e, t1, he, h⟩ := rd_wp hR h
  have key : ∀ b o', a.eval x = .pointer (some ⟨b, o', none⟩) → (execOp a.eval o).run P w = .ok (.value (a.eval x)) w := fun b o' hv => run_nilCheck hop hv
  split at h
  · obtain ⟨h1, h2⟩ := h
    obtain ⟨b, o', hv, -⟩ := he.2.2 (Nat.eq_of_beq_eq_true h1)
    exact end_put hd hR hK (key b o' hv) he h2
  · obtain ⟨h1, t2, h2⟩ := depsOk_wp h
    obtain ⟨b, o', hv, -⟩ := he.2.2 h1
    exact end_put hd hR hK (key b o' hv) he h2
  · exact h.elim

theorem op_extract (hd : dstOk n.np n.nt o = true) (hR : R n σ g I a w) (hK : Post P n I w Q K) {x : Operand} {i : Nat} (hop : o.op = .extract x i)
    (h : (opStep Γ f o).wp cf σ tr Q) : Goal P o a w K Qm := by
  simp only [opStep, hop] at h
  obtain ⟨e, t1, he, h⟩ := rd_wp hR h
  split at h
  · rename_i es
    obtain ⟨vs, hv, hs⟩ := he
    obtain ⟨x', hx, h⟩ := ofOpt_wp h
    have key : ∀ (es : List Ent) (vs : List Value) (i : Nat), Ents0R σ.k g w I es vs → es[i]? = some x' → ∃ v, vs[i]? = some v ∧ Ent0R σ.k g w I x' v := by
      intro es
      induction es with
      | nil => intro vs i _ h; simp at h
      | cons e es ih =>
        intro vs i h1 h2
        cases vs with
        | nil => exact h1.elim
        | cons v vs =>
          cases i with
          | zero => simp at h2; subst h2; exact ⟨v, rfl, h1.1⟩
          | succ i => simpa using ih vs i h1.2 (by simpa using h2)
    obtain ⟨v, hv1, hv2⟩ := key es vs.toList i hs hx
    have hv1' : vs[i]? = some v := by simpa using hv1
    have hrun := run_extract (P := P) (w := w) (ρ := a.eval) hop hv hv1'
    refine end_put hd hR hK hrun (e := x') ?_ h
    cases x' <;> first | exact hv2 | exact hv2.elim
  · exact h.elim
end
end Go.E

namespace Go.E
open Go

section
variable {P : Program} {w : World} {ρ : Operand → Value} {o : Oper}
theorem guard_int {op : BinOp} {t : TypeId} {x y : Operand} {k k' : IntKind} {i j : Int} : (eqGuard op t x y (.int k i) (.int k' j)).run P w = .ok () w := by
  cases op <;> simp [eqGuard, go_sem]
theorem guard_str {op : BinOp} {t : TypeId} {x y : Operand} {i j : ByteArray} : (eqGuard op t x y (.string i) (.string j)).run P w = .ok () w := by
  cases op <;> simp [eqGuard, go_sem]
theorem guard_bool {op : BinOp} {t : TypeId} {x y : Operand} {i j : Bool} : (eqGuard op t x y (.bool i) (.bool j)).run P w = .ok () w := by
  cases op <;> simp [eqGuard, go_sem]
theorem run_binOp {op : BinOp} {t t' : TypeId} {x y : Operand} {v : Value} (hop : o.op = .binOp op t x y t')
    (hg : (eqGuard op t x y (ρ x) (ρ y)).run P w = .ok () w) (hv : (binOp op t (ρ x) (ρ y)).run P w = .ok v w) :
    (execOp ρ o).run P w = .ok (.value v) w := by
  simp only [execOp, hop]
  rw [Sem.run_bind, Sem.run_bind, hg]
  simp [hv]
theorem run_unOp {op : UnOp} {t : TypeId} {x : Operand} {v : Value} (hop : o.op = .unOp op t x) (hv : (Op.unary op (ρ x)).run P w = .ok v w) :
    (execOp ρ o).run P w = .ok (.value v) w := by
  simp only [execOp, hop]
  rw [Sem.run_bind, hv]
  simp
theorem pureRun {α : Type} (x : α) : (pure x : Sem α).run P w = .ok x w := rfl
end

section
variable {Γ : Ctx} {P : Program} {cf : FuncId → List Arg → R3 Ret}
variable {n : Fr} {σ : S} {g : Gh} {I : Foot} {a : Act} {w : World}
variable {o : Oper} {f : FuncId} {tr : Tr} {Q : S → Tr → Prop} {K : Act → World → Prop} {Qm : Exit → Act → World → Prop}

theorem binInt_ok {op : BinOp} {k : IntKind} {x y : Int} {C : ST → T → Prog} (t : TypeId) (hx : k.min ≤ x ∧ x ≤ k.max)
    (h : (binInt op k x y C).wp cf σ tr Q) (h1 : op ≠ .shl) (h2 : op ≠ .shr) :
    ∃ s d v, (binOp op t (.int k x) (.int k y)).run P w = .ok v w ∧ ScR s v d ∧ (C s d).wp cf σ tr Q := by
  cases op <;> simp only [binInt] at h <;> try (exact h.elim)
  case add => exact ⟨_, _, _, by simp only [binOp, ne_eq, not_true_eq_false, if_false, Op.intArith]; rfl, sc_int, h⟩
  case sub => exact ⟨_, _, _, by simp only [binOp, ne_eq, not_true_eq_false, if_false, Op.intArith]; rfl, sc_int, h⟩
  case mul => exact ⟨_, _, _, by simp only [binOp, ne_eq, not_true_eq_false, if_false, Op.intArith]; rfl, sc_int, h⟩
  case quo =>
    obtain ⟨h0, h⟩ := h
    have hy : y ≠ 0 := by simpa using h0
    exact ⟨_, _, _, by simp only [binOp, ne_eq, not_true_eq_false, if_false, Op.intDiv, hy]; rfl, sc_int, h⟩
  case rem =>
    obtain ⟨h0, h⟩ := h
    have hy : y ≠ 0 := by simpa using h0
    exact ⟨.int k, .i (x.tmod y), .int k (x.tmod y), by simp only [binOp, ne_eq, not_true_eq_false, if_false, Op.intDiv, hy]; rfl, ⟨_, rfl, rfl, (tmod_range hx).1, (tmod_range hx).2⟩, h⟩
  case and => exact ⟨_, _, _, by simp only [binOp, ne_eq, not_true_eq_false, if_false, Op.intBits]; rfl, sc_int, h⟩
  case or => exact ⟨_, _, _, by simp only [binOp, ne_eq, not_true_eq_false, if_false, Op.intBits]; rfl, sc_int, h⟩
  case xor => exact ⟨_, _, _, by simp only [binOp, ne_eq, not_true_eq_false, if_false, Op.intBits]; rfl, sc_int, h⟩
  case andNot => exact ⟨_, _, _, by simp only [binOp, ne_eq, not_true_eq_false, if_false, Op.intBits]; rfl, sc_int, h⟩
  case eql => exact ⟨_, _, _, by simp only [binOp, ne_eq, not_true_eq_false, if_false, Op.intCmp]; rfl, sc_bool, h⟩
  case neq => exact ⟨_, _, _, by simp only [binOp, ne_eq, not_true_eq_false, if_false, Op.intCmp]; rfl, sc_bool, h⟩
  case lss => exact ⟨_, _, _, by simp only [binOp, ne_eq, not_true_eq_false, if_false, Op.intCmp]; rfl, sc_bool, h⟩
  case leq => exact ⟨_, _, _, by simp only [binOp, ne_eq, not_true_eq_false, if_false, Op.intCmp]; rfl, sc_bool, h⟩
  case gtr => exact ⟨_, _, _, by simp only [binOp, ne_eq, not_true_eq_false, if_false, Op.intCmp]; rfl, sc_bool, h⟩
  case geq => exact ⟨_, _, _, by simp only [binOp, ne_eq, not_true_eq_false, if_false, Op.intCmp]; rfl, sc_bool, h⟩
theorem i64max : IntKind.i64.max = 9223372036854775807 := by decide
theorem binStr_ok {op : BinOp} {x y : ByteArray} {C : ST → T → Prog} (t : TypeId)
    (h : (binStr op x y C).wp cf σ tr Q) :
    ∃ s d v, (binOp op t (.string x) (.string y)).run P w = .ok v w ∧ ScR s v d ∧ (C s d).wp cf σ tr Q := by
  cases op <;> simp only [binStr] at h <;> try (exact h.elim)
  case add =>
    obtain ⟨h0, h⟩ := h
    have h1 : x.size + y.size < 9223372036854775808 := by simpa using h0
    have h2 : ¬ (((x.size + y.size : Nat) : Int) > IntKind.i64.max) := by rw [i64max]; omega
    exact ⟨.str, _, .string (x ++ y), by simp only [binOp, Op.stringOp, h2, if_false]; rfl, ⟨_, rfl, rfl, by rw [ByteArray.size_append]; exact h1⟩, h⟩
  case eql => exact ⟨_, _, _, by simp only [binOp, Op.stringOp]; rfl, sc_bool, h⟩
  case neq => exact ⟨_, _, _, by simp only [binOp, Op.stringOp]; rfl, sc_bool, h⟩
  case lss => exact ⟨_, _, _, by simp only [binOp, Op.stringOp]; rfl, sc_bool, h⟩
  case leq => exact ⟨_, _, _, by simp only [binOp, Op.stringOp]; rfl, sc_bool, h⟩
  case gtr => exact ⟨_, _, _, by simp only [binOp, Op.stringOp]; rfl, sc_bool, h⟩
  case geq => exact ⟨_, _, _, by simp only [binOp, Op.stringOp]; rfl, sc_bool, h⟩
end
end Go.E


namespace Go.E
open Go

section
variable {P : Program} {w : World} {ρ : Operand → Value} {o : Oper}
theorem run_part {t : TypeId} {cs : Array Value} {off : Nat} {v : Value} {d : TypeDesc} (hu : P.underlying t = some d) (hd : (∀ fs, d ≠ .struct fs) ∧ ∀ n e, d ≠ .array n e)
    (hv : cs[off]? = some v) : (part t cs off).run P w = .ok v w := by
  have h1 : (isAgg t).run P w = .ok false w := by
    simp only [isAgg, Sem.run_bind, run_underlying hu, Result.andThen_ok]
    cases d <;> first | rfl | exact absurd rfl (hd.1 _) | exact absurd rfl (hd.2 _ _)
  simp [part, h1, hv]
end

section
variable {Γ : Ctx} {P : Program} {cf : FuncId → List Arg → R3 Ret}
variable {n : Fr} {σ : S} {g : Gh} {I : Foot} {a : Act} {w : World}
variable {o : Oper} {f : FuncId} {tr : Tr} {Q : S → Tr → Prop} {K : Act → World → Prop} {Qm : Exit → Act → World → Prop}

/-- equality of flat structs -/
theorem eqSc_ok {s : ST} {x y : T} {u v : Value} {b : Bool} {t : TypeId} {d : Nat} (hty : match LT.sc s with
      | .sc (.int k) => P.underlying t = some (.int k)
      | .sc .bool => P.underlying t = some .bool
      | .sc .str => P.underlying t = some .string
      | _ => False) (hu : ScR s u x) (hv : ScR s v y) (h : eqSc s x y = some b) :
    (Op.equalIn (d + 1) t u v).run P w = .ok b w ∧ ∃ dd, P.underlying t = some dd ∧ (∀ fs, dd ≠ .struct fs) ∧ ∀ n e, dd ≠ .array n e := by
  cases s with
  | int k =>
    obtain ⟨i, rfl, rfl, -⟩ := hu
    obtain ⟨i', rfl, rfl, -⟩ := hv
    simp only [eqSc, T.int, Option.some.injEq] at h
    subst h
    exact ⟨run_equalIn_int w d _ _ _ _ _ hty, _, hty, fun _ h => (nomatch h), fun _ _ h => (nomatch h)⟩
  | bool =>
    obtain ⟨i, rfl, rfl⟩ := hu
    obtain ⟨i', rfl, rfl⟩ := hv
    simp only [eqSc, T.bool, Option.some.injEq] at h
    subst h
    exact ⟨run_equalIn_bool' w d _ _ _ hty, _, hty, fun _ h => (nomatch h), fun _ _ h => (nomatch h)⟩
  | str =>
    obtain ⟨i, rfl, rfl, -⟩ := hu
    obtain ⟨i', rfl, rfl, -⟩ := hv
    simp only [eqSc, T.str, Option.some.injEq] at h
    subst h
    exact ⟨run_equalIn_string w d _ _ _ hty, _, hty, fun _ h => (nomatch h), fun _ _ h => (nomatch h)⟩
  | any => exact hty.elim
theorem eqLeaves_ok {κ : Key → KE} {d : Nat} {xs ys : Array Value} : ∀ (fs : List Field) (lts : List LT) (j : Nat) (ls rs : List Leaf) (r : Bool), FlatFs P j fs lts →
    LfsR κ g w I ls (xs.toList.drop j) → LfsR κ g w I rs (ys.toList.drop j) → eqLeaves lts ls rs = some r →
    (Op.eqFields (d + 1) xs ys fs).run P w = .ok r w
  | [], [], j, ls, rs, r, hf, hl, hr, he => by
    cases ls <;> cases rs <;> simp [eqLeaves] at he
    subst he; simp [Op.eqFields]
  | [], _ :: _, j, ls, rs, r, hf, hl, hr, he => hf.elim
  | f :: fs, [], j, ls, rs, r, hf, hl, hr, he => hf.elim
  | f :: fs, lt :: lts, j, ls, rs, r, hf, hl, hr, he => by
    unfold eqLeaves at he
    split at he
    · contradiction
    · rename_i c lts' a' x ls' b' y rs' e1
      cases e1
      split at he
      · rename_i hab
        obtain ⟨rfl, rfl⟩ := hab
        split at he
        · rename_i b r' h1 h2
          cases he
          obtain ⟨hname, hoff, hty, hf⟩ := hf
          cases hx : xs.toList.drop j with
          | nil => rw [hx] at hl; exact hl.elim
          | cons u us =>
            cases hy : ys.toList.drop j with
            | nil => rw [hy] at hr; exact hr.elim
            | cons v vs =>
              rw [hx] at hl; rw [hy] at hr
              have hx1 : xs[j]? = some u := by
                have : (xs.toList.drop j)[0]? = some u := by rw [hx]; rfl
                simpa using this
              have hy1 : ys[j]? = some v := by
                have : (ys.toList.drop j)[0]? = some v := by rw [hy]; rfl
                simpa using this
              have hx2 : xs.toList.drop (j + 1) = us := by rw [← List.drop_drop, hx]; rfl
              have hy2 : ys.toList.drop (j + 1) = vs := by rw [← List.drop_drop, hy]; rfl
              obtain ⟨-, s1', e1, hu⟩ := hl.1
              obtain ⟨-, s2', e2, hv⟩ := hr.1
              cases e1; cases e2
              obtain ⟨hb, dd, hu', hdd⟩ := eqSc_ok (P := P) (w := w) (d := d) hty hu hv h1
              have ih := eqLeaves_ok (d := d) (xs := xs) (ys := ys) fs lts (j + 1) ls' rs' r' hf (by rw [hx2]; exact hl.2) (by rw [hy2]; exact hr.2) h2
              simp only [Op.eqFields, ne_eq, hname, not_false_eq_true, if_true, Sem.run_bind, hoff, run_part hu' hdd hx1, run_part hu' hdd hy1, Result.andThen_ok, hb]
              cases b
              · simp
              · simpa using ih
        · cases he
      · cases he
    · cases he

theorem equal_agg {κ : Key → KE} {t : TypeId} {ti : TI} {ls rs : List Leaf} {r : Bool} {xs ys : Array Value} (hf : FlatOk P t ti.lts) (hl : LfsR κ g w I ls xs.toList) (hr : LfsR κ g w I rs ys.toList)
    (he : eqLeaves ti.lts ls rs = some r) : (Op.equal t (.agg xs) (.agg ys)).run P w = .ok r w ∧
      ∀ op x y, (eqGuard op t x y (.agg xs) (.agg ys)).run P w = .ok () w := by
  obtain ⟨fields, h1, h2, h3, h4⟩ := hf
  constructor
  · have hfo : P.fieldsOf t = fields := by simp [Program.fieldsOf, h1]
    show (Op.equalIn (9999 + 1) t (.agg xs) (.agg ys)).run P w = .ok r w
    rw [run_equalIn_struct (P := P) w 9999 t xs ys (by rw [hfo]; exact h1) h2, hfo]
    exact eqLeaves_ok (d := 9998) fields.toList ti.lts 0 ls rs r h4 (by simpa using hl) (by simpa using hr) he
  · intro op x y
    cases op <;> simp [eqGuard, h3, go_sem]

theorem op_binOp (hΓ : CtxOk Γ P) (hd : dstOk n.np n.nt o = true) (hR : R n σ g I a w) (hK : Post P n I w Q K) {op : BinOp} {t t' : TypeId} {x y : Operand} (hop : o.op = .binOp op t x y t')
    (h : (opStep Γ f o).wp cf σ tr Q) : Goal P o a w K Qm := by
  simp only [opStep, hop] at h
  obtain ⟨ti, -, hty, h⟩ := tyOf_wp hΓ h
  obtain ⟨ex, t1, hx, h⟩ := rd_wp hR h
  obtain ⟨ey, t2, hy, h⟩ := rd_wp hR h
  unfold binE at h
  split at h
  · skip
    rename_i k u k' v _
    have hu : ScR (.int k) (a.eval x) u := by obtain ⟨-, s, e, hu⟩ := hx; cases e; exact hu
    have hv : ScR (.int k') (a.eval y) v := by obtain ⟨-, s, e, hu⟩ := hy; cases e; exact hu
    obtain ⟨i, hi, rfl, hi1⟩ := hu
    obtain ⟨j, hj, rfl, hj1⟩ := hv
    have hgd : (eqGuard op t x y (a.eval x) (a.eval y)).run P w = .ok () w := by rw [hi, hj]; exact guard_int
    split at h
    · obtain ⟨h0, h⟩ := h
      have h1 : ¬ j < 0 := by have := of_decide_eq_true h0; simp only [T.int] at this; omega
      refine end_sc hd hR hK (run_binOp hop hgd (v := .int k (k.wrap (i * 2 ^ (min j.toNat k.bits)))) ?_) sc_int h
      rw [hi, hj]; simp [binOp, Op.shift, h1]
    · obtain ⟨h0, h⟩ := h
      have h1 : ¬ j < 0 := by have := of_decide_eq_true h0; simp only [T.int] at this; omega
      refine end_sc hd hR hK (s := .int k) (run_binOp hop hgd (v := .int k (i.fdiv (2 ^ (min j.toNat k.bits)))) ?_) ⟨_, rfl, rfl, fdiv_range hi1⟩ h
      rw [hi, hj]; simp [binOp, Op.shift, h1]
    · rename_i hs1 hs2
      split at h
      · rename_i hk
        subst hk
        obtain ⟨s, d, v, h1, h2, h3⟩ := binInt_ok (P := P) (w := w) t hi1 h (fun e => hs1 e) (fun e => hs2 e)
        exact end_sc hd hR hK (run_binOp hop hgd (by rw [hi, hj]; exact h1)) h2 h3
      · exact h.elim
  · obtain ⟨-, s, e, hu⟩ := hx
    cases e
    obtain ⟨-, s, e, hv⟩ := hy
    cases e
    obtain ⟨i, hi, rfl, hi1⟩ := hu
    obtain ⟨j, hj, rfl, hj1⟩ := hv
    have hgd : (eqGuard op t x y (a.eval x) (a.eval y)).run P w = .ok () w := by rw [hi, hj]; exact guard_str
    obtain ⟨s, d, v, h1, h2, h3⟩ := binStr_ok (P := P) (w := w) t h
    exact end_sc hd hR hK (run_binOp hop hgd (by rw [hi, hj]; exact h1)) h2 h3
  · obtain ⟨-, s, e, hu⟩ := hx
    cases e
    obtain ⟨-, s, e, hv⟩ := hy
    cases e
    obtain ⟨i, hi, rfl⟩ := hu
    obtain ⟨j, hj, rfl⟩ := hv
    have hgd : (eqGuard op t x y (a.eval x) (a.eval y)).run P w = .ok () w := by rw [hi, hj]; exact guard_bool
    cases hb : isBoolK ti.kind with
    | false => simp only [hb, cond_false] at h; exact h.elim
    | true =>
      simp only [hb, cond_true] at h
      have hub : P.underlying t = some .bool := by
        obtain ⟨d, h1, h2⟩ := hty.und
        unfold isBoolK at hb
        split at hb
        · rename_i hk; rw [hk] at h2; rw [h1, h2.1]
        · cases hb
      have heq : (Op.equal t (.bool i) (.bool j)).run P w = .ok (i == j) w := run_equalIn_bool' w 9999 t i j hub
      split at h
      · exact end_sc hd hR hK (run_binOp hop hgd (v := .bool (i == j)) (by rw [hi, hj]; simp [binOp, heq])) sc_bool h
      · exact end_sc hd hR hK (run_binOp hop hgd (v := .bool (!(i == j))) (by rw [hi, hj]; simp [binOp, heq])) sc_bool h
      · exact h.elim
  · rename_i ls rs
    obtain ⟨xs, hxs, hl⟩ := hx
    obtain ⟨ys, hys, hr⟩ := hy
    cases hb : ti.flat with
    | false => simp only [hb, cond_false] at h; exact h.elim
    | true =>
      simp only [hb, cond_true] at h
      split at h
      · obtain ⟨r, he, h⟩ := ofOpt_wp h
        obtain ⟨h1, h2⟩ := equal_agg (hty.flat hb) hl hr he
        exact end_sc hd hR hK (run_binOp hop (by rw [hxs, hys]; exact h2 _ _ _) (v := .bool r) (by rw [hxs, hys]; simp [binOp, h1])) sc_bool h
      · obtain ⟨r, he, h⟩ := ofOpt_wp h
        obtain ⟨h1, h2⟩ := equal_agg (hty.flat hb) hl hr he
        exact end_sc hd hR hK (run_binOp hop (by rw [hxs, hys]; exact h2 _ _ _) (v := .bool (!r)) (by rw [hxs, hys]; simp [binOp, h1])) sc_bool h
      · exact h.elim
  · exact h.elim

theorem op_unOp (hd : dstOk n.np n.nt o = true) (hR : R n σ g I a w) (hK : Post P n I w Q K) {op : UnOp} {t : TypeId} {x : Operand} (hop : o.op = .unOp op t x)
    (h : (opStep Γ f o).wp cf σ tr Q) : Goal P o a w K Qm := by
  simp only [opStep, hop] at h
  obtain ⟨ex, t1, hx, h⟩ := rd_wp hR h
  obtain ⟨s, d, rfl, hv, h⟩ := scal_wp hx h
  split at h
  · obtain ⟨b, hb, rfl⟩ := hv
    exact end_sc hd hR hK (run_unOp hop (by rw [hb]; rfl)) sc_bool h
  · obtain ⟨i, hi, rfl, -⟩ := hv
    exact end_sc hd hR hK (run_unOp hop (by rw [hi]; rfl)) sc_int h
  · obtain ⟨i, hi, rfl, -⟩ := hv
    exact end_sc hd hR hK (run_unOp hop (by rw [hi]; rfl)) sc_int h
  · exact h.elim
end
end Go.E

namespace Go.E
open Go
mutual
theorem LT.beq_eq : ∀ {a b : LT}, LT.beq a b = true → a = b
  | .sc a, .sc b, h => by unfold LT.beq at h; rw [of_decide_eq_true h]
  | .sl a, .sl b, h => by unfold LT.beq at h; rw [LT.beqs_eq h]
  | .sc _, .sl _, h => by unfold LT.beq at h; cases h
  | .sl _, .sc _, h => by unfold LT.beq at h; cases h
theorem LT.beqs_eq : ∀ {a b : List LT}, LT.beqs a b = true → a = b
  | [], [], h => rfl
  | a :: as, b :: bs, h => by
    unfold LT.beqs at h
    simp only [Bool.and_eq_true] at h
    rw [LT.beq_eq h.1, LT.beqs_eq h.2]
  | [], _ :: _, h => by unfold LT.beqs at h; cases h
  | _ :: _, [], h => by unfold LT.beqs at h; cases h
end


section
variable {w w' : World} {I I' S A : Foot}
/-- the values that cells hold -/
def LeavesR (w : World) (S : Foot) : List LT → List Value → List T → Prop
  | [], [], [] => True
  | e :: es, v :: vs, d :: ds => LeafR w S e v d ∧ LeavesR w S es vs ds
  | _, _, _ => False
def CellsAt (w : World) (b o : Nat) : List Value → Prop
  | [] => True
  | v :: vs => cellAt w b o = some v ∧ CellsAt w b (o + 1) vs
theorem RowR.vals : ∀ {es : List LT} {b o : Nat} {row : List T}, RowR w A S es b o row → ∃ vs, LeavesR w S es vs row ∧ CellsAt w b o vs
  | [], b, o, row, h => by unfold RowR at h; subst h; exact ⟨[], trivial, trivial⟩
  | e :: es, b, o, row, h => by
    unfold RowR at h
    obtain ⟨d, rest, v, rfl, -, h3, h4, h5⟩ := h
    obtain ⟨vs, h6, h7⟩ := RowR.vals h5
    exact ⟨v :: vs, ⟨h4, h6⟩, h3, h7⟩
theorem LeavesR.len : ∀ {es : List LT} {vs : List Value} {ds : List T}, LeavesR w S es vs ds → vs.length = es.length ∧ ds.length = es.length
  | [], [], [], _ => ⟨rfl, rfl⟩
  | _ :: es, _ :: vs, _ :: ds, h => by have := LeavesR.len h.2; simp; omega
  | [], _ :: _, _, h => h.elim
  | [], [], _ :: _, h => h.elim
  | _ :: _, [], _, h => h.elim
  | _ :: _, _ :: _, [], h => h.elim
theorem LeavesR.drop : ∀ {es : List LT} {vs : List Value} {ds : List T} (k : Nat), LeavesR w S es vs ds → LeavesR w S (es.drop k) (vs.drop k) (ds.drop k)
  | es, vs, ds, 0, h => h
  | [], [], [], k + 1, h => trivial
  | _ :: es, _ :: vs, _ :: ds, k + 1, h => LeavesR.drop k h.2
  | [], _ :: _, _, _ + 1, h => h.elim
  | [], [], _ :: _, _ + 1, h => h.elim
  | _ :: _, [], _, _ + 1, h => h.elim
  | _ :: _, _ :: _, [], _ + 1, h => h.elim
theorem CellsAt.drop : ∀ {vs : List Value} {b o : Nat} (k : Nat), CellsAt w b o vs → CellsAt w b (o + k) (vs.drop k)
  | vs, b, o, 0, h => h
  | [], b, o, k + 1, h => trivial
  | v :: vs, b, o, k + 1, h => by
    have := CellsAt.drop k h.2
    rwa [show o + 1 + k = o + (k + 1) from by omega] at this
theorem CellsAt.take : ∀ {vs : List Value} {b o : Nat} (k : Nat), CellsAt w b o vs → CellsAt w b o (vs.take k)
  | vs, b, o, 0, h => trivial
  | [], b, o, k + 1, h => trivial
  | v :: vs, b, o, k + 1, h => ⟨h.1, CellsAt.take k h.2⟩
theorem block_cell {b o : Nat} {c : Array Value} {el : TypeId} {fz : Nat × Nat} (h : Block w b c el fz) : cellAt w b o = c[o]? := by
  unfold Block at h
  simp [cellAt, World.cell?, h]
theorem Keeps.block {b : Nat} {c : Array Value} {el : TypeId} {fz : Nat × Nat} (h : Keeps A w w') (hb : Block w b c el fz) :
    ∃ c', Block w' b c' el fz ∧ c'.size = c.size ∧ ∀ o, A b o → c'[o]? = c[o]? := by
  obtain ⟨y, hy, hk⟩ := h.obj b _ hb
  obtain ⟨c', rfl, h1, h2⟩ := hk
  exact ⟨c', hy, h1, h2⟩
theorem RowR.of_vals : ∀ {es : List LT} {b o : Nat} {vs : List Value} {row : List T}, LeavesR w I es vs row → CellsAt w b o vs → RowR w (fun _ _ => True) I es b o row
  | [], b, o, [], [], _, _ => by unfold RowR; rfl
  | e :: es, b, o, v :: vs, d :: ds, h, hc => by
    unfold RowR
    exact ⟨d, ds, v, rfl, trivial, hc.1, h.1, RowR.of_vals h.2 hc.2⟩
  | [], _, _, _ :: _, _, h, _ => h.elim
  | [], _, _, [], _ :: _, h, _ => h.elim
  | _ :: _, _, _, [], _, h, _ => h.elim
  | _ :: _, _, _, _ :: _, [], h, _ => h.elim
theorem CellsAt.of_block {b : Nat} {c : Array Value} {el : TypeId} {fz : Nat × Nat} (hb : Block w b c el fz) : ∀ (vs : List Value) (k : Nat), (∀ j (hj : j < vs.length), c[k + j]? = some vs[j]) → CellsAt w b k vs
  | [], _, _ => trivial
  | v :: vs, k, h => by
    refine ⟨?_, CellsAt.of_block hb vs (k + 1) fun j hj => ?_⟩
    · rw [block_cell hb]; exact (h 0 (by simp))
    · have := h (j + 1) (by simpa using hj)
      rwa [show k + (j + 1) = k + 1 + j from by omega] at this
theorem CellsAt.get : ∀ {vs : List Value} {b o : Nat}, CellsAt w b o vs → ∀ j (hj : j < vs.length), cellAt w b (o + j) = some vs[j]
  | [], b, o, _, j, hj => by simp at hj
  | v :: vs, b, o, h, 0, hj => h.1
  | v :: vs, b, o, h, j + 1, hj => by
    have := CellsAt.get h.2 j (by simpa using hj)
    rwa [show o + 1 + j = o + (j + 1) from by omega] at this
theorem LeavesR.take : ∀ {es : List LT} {vs : List Value} {ds : List T} (k : Nat), LeavesR w S es vs ds → LeavesR w S (es.take k) (vs.take k) (ds.take k)
  | es, vs, ds, 0, h => by simp [LeavesR]
  | [], [], [], k + 1, h => trivial
  | _ :: es, _ :: vs, _ :: ds, k + 1, h => ⟨h.1, LeavesR.take k h.2⟩
  | [], _ :: _, _, _ + 1, h => h.elim
  | [], [], _ :: _, _ + 1, h => h.elim
  | _ :: _, [], _, _ + 1, h => h.elim
  | _ :: _, _ :: _, [], _ + 1, h => h.elim
theorem LeavesR.app : ∀ {es es' : List LT} {vs vs' : List Value} {ds ds' : List T}, LeavesR w S es vs ds → LeavesR w S es' vs' ds' → LeavesR w S (es ++ es') (vs ++ vs') (ds ++ ds')
  | [], es', [], vs', [], ds', _, h => h
  | _ :: _, _, _ :: _, _, _ :: _, _, h, h' => ⟨h.1, LeavesR.app h.2 h'⟩
  | [], _, _ :: _, _, _, _, h, _ => h.elim
  | [], _, [], _, _ :: _, _, h, _ => h.elim
  | _ :: _, _, [], _, _, _, h, _ => h.elim
  | _ :: _, _, _ :: _, _, [], _, h, _ => h.elim
theorem LeavesR.mono {I I' : Foot} (h : ∀ b o, I b o → I' b o ∧ cellAt w' b o = cellAt w b o) : ∀ {es : List LT} {vs : List Value} {ds : List T}, LeavesR w I es vs ds → LeavesR w' I' es vs ds
  | [], [], [], _ => trivial
  | e :: es, v :: vs, d :: ds, hh => ⟨LeafR.mono (fun b o hb => (h b o hb).1) (fun b o hb => (h b o hb).2) e hh.1, LeavesR.mono h hh.2⟩
  | [], _ :: _, _, h => h.elim
  | [], [], _ :: _, h => h.elim
  | _ :: _, [], _, h => h.elim
  | _ :: _, _ :: _, [], h => h.elim
theorem RowR.of_leaves {S A : Foot} : ∀ {es : List LT} {vs : List Value} {ds : List T} {b o : Nat}, LeavesR w S es vs ds → CellsAt w b o vs → (∀ j, j < vs.length → A b (o + j)) → RowR w A S es b o ds
  | [], [], [], b, o, _, _, _ => by unfold RowR; rfl
  | e :: es, v :: vs, d :: ds, b, o, h, hc, ha => by
    unfold RowR
    exact ⟨d, ds, v, rfl, by simpa using ha 0 (by simp), hc.1, h.1, RowR.of_leaves h.2 hc.2 fun j hj => by
      have := ha (j + 1) (by simpa using hj)
      rwa [show o + (j + 1) = o + 1 + j from by omega] at this⟩
  | [], _ :: _, _, _, _, h, _, _ => h.elim
  | [], [], _ :: _, _, _, h, _, _ => h.elim
  | _ :: _, [], _, _, _, h, _, _ => h.elim
  | _ :: _, _ :: _, [], _, _, h, _, _ => h.elim
theorem RowR.top {w : World} {I S A : Foot} (hs : ∀ b o, I b o → S b o) : ∀ {es : List LT} {b o : Nat} {row : List T},
    RowR w (fun _ _ => True) I es b o row → (∀ j, j < es.length → A b (o + j)) → RowR w A S es b o row
  | [], b, o, row, h, _ => by unfold RowR at *; exact h
  | e :: es, b, o, row, h, ha => by
    unfold RowR at h ⊢
    obtain ⟨d, rest, v, h1, -, h3, h4, h5⟩ := h
    exact ⟨d, rest, v, h1, by simpa using ha 0 (by simp), h3, LeafR.mono hs (fun _ _ _ => rfl) e h4,
      RowR.top hs h5 fun j hj => by have := ha (j + 1) (by simp; omega); rwa [show o + 1 + j = o + (j + 1) from by omega]⟩
end
/-! rows, and what hangs in them -/
section
variable {p q : List Value → List T → List Nat → Prop} {sz : Nat}
theorem RowsOf.imp : ∀ {rows : List (List T)} {cs : List Value} {bs : List Nat}, (∀ vs ds b', (∀ x ∈ b', x ∈ bs) → p vs ds b' → q vs ds b') → RowsOf p sz rows cs bs → RowsOf q sz rows cs bs
  | [], cs, bs, _, h => h
  | r :: rs, cs, bs, hp, h => by
    obtain ⟨b1, b2, rfl, h1, h2⟩ := h
    exact ⟨b1, b2, rfl, hp _ _ _ (fun x hx => by simp [hx]) h1, RowsOf.imp (fun vs ds b' hb => hp vs ds b' fun x hx => by simp [hb x hx]) h2⟩
theorem RowsOf.get : ∀ {rows : List (List T)} {cs : List Value} {bs : List Nat}, RowsOf p sz rows cs bs → ∀ i (h : i < rows.length), ∃ b', (∀ x ∈ b', x ∈ bs) ∧ p ((cs.drop (i * sz)).take sz) rows[i] b'
  | r :: rs, cs, bs, h, 0, _ => by
    obtain ⟨b1, b2, rfl, h1, h2⟩ := h
    exact ⟨b1, fun x hx => by simp [hx], by simpa using h1⟩
  | r :: rs, cs, bs, h, i + 1, hi => by
    obtain ⟨b1, b2, rfl, h1, h2⟩ := h
    obtain ⟨b', h3, h4⟩ := RowsOf.get h2 i (by simpa using hi)
    refine ⟨b', fun x hx => by simp [h3 x hx], ?_⟩
    rw [List.drop_drop] at h4
    simpa [Nat.add_mul, Nat.add_comm] using h4
theorem RowsOf.cells : ∀ {rows : List (List T)} {cs cs' : List Value} {bs : List Nat}, RowsOf p sz rows cs bs → cs'.take (rows.length * sz) = cs.take (rows.length * sz) → RowsOf p sz rows cs' bs
  | [], cs, cs', bs, h, _ => h
  | r :: rs, cs, cs', bs, h, he => by
    obtain ⟨b1, b2, rfl, h1, h2⟩ := h
    have e1 : (r :: rs).length * sz = sz + rs.length * sz := by simp only [List.length_cons, Nat.add_mul]; omega
    rw [e1] at he
    refine ⟨b1, b2, rfl, ?_, RowsOf.cells h2 ?_⟩
    · have := congrArg (List.take sz) he
      rw [List.take_take, List.take_take, Nat.min_eq_left (by omega)] at this
      rw [this]; exact h1
    · have := congrArg (List.drop sz) he
      rw [List.drop_take, List.drop_take] at this
      simpa using this
theorem RowsOf.app : ∀ {rows rows' : List (List T)} {cs cs' : List Value} {b1 b2 : List Nat}, RowsOf p sz rows cs b1 → cs.length = rows.length * sz → RowsOf p sz rows' cs' b2 → RowsOf p sz (rows ++ rows') (cs ++ cs') (b1 ++ b2)
  | [], rows', cs, cs', b1, b2, h, hn, h' => by
    have : cs = [] := List.length_eq_zero_iff.1 (by simpa using hn)
    subst this
    have h : b1 = [] := h
    subst h; exact h'
  | r :: rs, rows', cs, cs', b1, b2, h, hn, h' => by
    obtain ⟨b3, b4, rfl, h1, h2⟩ := h
    simp only [List.length_cons, Nat.add_mul, Nat.one_mul] at hn
    refine ⟨b3, b4 ++ b2, by simp, ?_, ?_⟩
    · rw [List.take_append_of_le_length (by omega)]; exact h1
    · rw [List.drop_append_of_le_length (by omega)]
      exact RowsOf.app h2 (by rw [List.length_drop]; omega) h'
theorem RowsOf.split : ∀ (k : Nat) {rows : List (List T)} {cs : List Value} {bs : List Nat}, RowsOf p sz rows cs bs → ∃ b1 b2, bs = b1 ++ b2 ∧ RowsOf p sz (rows.take k) cs b1 ∧ RowsOf p sz (rows.drop k) (cs.drop (k * sz)) b2
  | 0, rows, cs, bs, h => ⟨[], bs, rfl, rfl, by simpa using h⟩
  | k + 1, [], cs, bs, h => by
    have h : bs = [] := h
    subst h
    exact ⟨[], [], rfl, rfl, rfl⟩
  | k + 1, r :: rs, cs, bs, h => by
    obtain ⟨b1, b2, rfl, h1, h2⟩ := h
    obtain ⟨b3, b4, rfl, h3, h4⟩ := RowsOf.split k h2
    refine ⟨b1 ++ b3, b4, by simp, ⟨b1, b3, rfl, h1, h3⟩, ?_⟩
    rw [List.drop_drop] at h4
    simpa [Nat.add_mul, Nat.add_comm] using h4
theorem RowsOf.join : ∀ (k : Nat) {rows : List (List T)} {cs : List Value} {b1 b2 : List Nat}, k ≤ rows.length → RowsOf p sz (rows.take k) cs b1 → RowsOf p sz (rows.drop k) (cs.drop (k * sz)) b2 → RowsOf p sz rows cs (b1 ++ b2)
  | 0, rows, cs, b1, b2, _, h, h' => by
    have h : b1 = [] := h
    subst h; simpa using h'
  | k + 1, [], cs, b1, b2, hk, _, _ => by simp at hk
  | k + 1, r :: rs, cs, b1, b2, hk, h, h' => by
    obtain ⟨b3, b4, rfl, h1, h2⟩ := h
    refine ⟨b3, b4 ++ b2, by simp, h1, RowsOf.join k (by simpa using hk) h2 ?_⟩
    rw [List.drop_drop]
    simpa [Nat.add_mul, Nat.add_comm] using h'
/-- one row is put in the place of another -/
theorem RowsOf.set {vs : List Value} {ds : List T} {bn : List Nat} (hp : p vs ds bn) (hv : vs.length = sz) : ∀ {rows : List (List T)} {cs : List Value} {bs : List Nat} (i : Nat), RowsOf p sz rows cs bs → rows.length * sz ≤ cs.length → i < rows.length →
    ∃ b1 bo b2, bs = b1 ++ bo ++ b2 ∧ RowsOf p sz (rows.set i ds) (cs.take (i * sz) ++ vs ++ cs.drop (i * sz + sz)) (b1 ++ bn ++ b2)
  | r :: rs, cs, bs, 0, h, hn, _ => by
    obtain ⟨bo, b2, rfl, h1, h2⟩ := h
    refine ⟨[], bo, b2, by simp, bn, b2, by simp, ?_, ?_⟩
    · simp only [Nat.zero_mul, List.take_zero, List.nil_append, Nat.zero_add]
      rw [List.take_append_of_le_length (by omega), ← hv, List.take_length]; exact hp
    · simp only [Nat.zero_mul, List.take_zero, List.nil_append, Nat.zero_add]
      rw [List.drop_append_of_le_length (by omega), ← hv, List.drop_length, List.nil_append, hv]; exact h2
  | r :: rs, cs, bs, i + 1, h, hn, hi => by
    obtain ⟨b3, b4, rfl, h1, h2⟩ := h
    simp only [List.length_cons, Nat.add_mul, Nat.one_mul] at hn
    obtain ⟨b1, bo, b2, rfl, h3⟩ := RowsOf.set hp hv i h2 (by rw [List.length_drop]; omega) (by simpa using hi)
    have e1 : (i + 1) * sz = sz + i * sz := by rw [Nat.add_mul]; omega
    have hm : i * sz + sz ≤ rs.length * sz := by
      have := Nat.mul_le_mul_right sz (show i + 1 ≤ rs.length by simp at hi; omega)
      rwa [Nat.add_mul, Nat.one_mul] at this
    refine ⟨b3 ++ b1, bo, b2, by simp, b3, b1 ++ bn ++ b2, by simp, ?_, ?_⟩
    · rw [List.append_assoc, List.take_append_of_le_length (by rw [List.length_take]; omega), List.take_take, Nat.min_eq_left (by omega)]
      exact h1
    · rw [List.append_assoc, List.drop_append_of_le_length (by rw [List.length_take]; omega), ← List.append_assoc, List.drop_take]
      rw [show (i + 1) * sz - sz = i * sz from by omega]
      rw [List.drop_drop] at h3
      rw [show (i + 1) * sz + sz = sz + (i * sz + sz) from by omega]
      exact h3
theorem RowsOf.all {r : List Value → List T → Prop} (hp : ∀ vs ds b', p vs ds b' → r vs ds) : ∀ {rows : List (List T)} {cs : List Value} {bs : List Nat}, RowsOf p sz rows cs bs → ∀ i (h : i < rows.length), r ((cs.drop (i * sz)).take sz) rows[i] :=
  fun h i hi => by obtain ⟨b', -, h1⟩ := h.get i hi; exact hp _ _ _ h1
end
section
variable {w w' : World} {I I' S A : Foot}
theorem sizeB_block {b : Nat} {c : Array Value} {el : TypeId} {fz : Nat × Nat} (h : Block w b c el fz) : sizeB w b = c.size := by
  unfold Block at h
  simp [sizeB, h]
theorem FB_cell {bs : List Nat} {b o : Nat} (h : FB w bs b o) : ∃ v, cellAt w b o = some v := by
  obtain ⟨-, h⟩ := h
  unfold sizeB at h
  split at h
  · rename_i c el fz hb
    exact ⟨c[o], by simp [cellAt, World.cell?, hb, h]⟩
  · omega
theorem sizeB_cell {b o : Nat} {v : Value} (h : cellAt w b o = some v) : o < sizeB w b := by
  unfold cellAt World.cell? at h
  unfold sizeB
  simp only at h
  split at h
  · rename_i hb
    simp only [hb]
    exact (Array.getElem?_eq_some_iff.1 h).1
  · cases h
theorem sizeB_keeps (hk : Keeps A w w') {b : Nat} (hb : ∃ c el fz, Block w b c el fz) : sizeB w' b = sizeB w b := by
  obtain ⟨c, el, fz, hb⟩ := hb
  obtain ⟨c', h1, h2, -⟩ := hk.block hb
  rw [sizeB_block h1, sizeB_block hb, h2]
theorem FB_sub {bs bs' : List Nat} (h : ∀ b ∈ bs, b ∈ bs') : ∀ b o, FB w bs b o → FB w bs' b o := fun b o hb => ⟨h b hb.1, hb.2⟩
theorem FB_app {bs bs' : List Nat} {b o : Nat} : FB w (bs ++ bs') b o ↔ FB w bs b o ∨ FB w bs' b o := by
  unfold FB; rw [List.mem_append]; constructor
  · rintro ⟨h | h, h'⟩
    · exact .inl ⟨h, h'⟩
    · exact .inr ⟨h, h'⟩
  · rintro (⟨h, h'⟩ | ⟨h, h'⟩)
    · exact ⟨.inl h, h'⟩
    · exact ⟨.inr h, h'⟩
theorem FB_cons {c : Nat} {bs : List Nat} {b o : Nat} : FB w (c :: bs) b o ↔ (b = c ∧ o < sizeB w c) ∨ FB w bs b o := by
  unfold FB; rw [List.mem_cons]; constructor
  · rintro ⟨rfl | h, h'⟩
    · exact .inl ⟨rfl, h'⟩
    · exact .inr ⟨h, h'⟩
  · rintro (⟨rfl, h'⟩ | ⟨h, h'⟩)
    · exact ⟨.inl rfl, h'⟩
    · exact ⟨.inr h, h'⟩
theorem FB_keeps (hk : Keeps A w w') {bs : List Nat} (hb : ∀ b ∈ bs, ∃ c el fz, Block w b c el fz) (b o : Nat) : FB w' bs b o ↔ FB w bs b o := by
  unfold FB
  constructor
  · rintro ⟨h1, h2⟩; exact ⟨h1, by rwa [sizeB_keeps hk (hb b h1)] at h2⟩
  · rintro ⟨h1, h2⟩; exact ⟨h1, by rwa [sizeB_keeps hk (hb b h1)]⟩
theorem NodupB_app : ∀ {b1 b2 : List Nat}, NodupB w (b1 ++ b2) ↔ NodupB w b1 ∧ NodupB w b2 ∧ ∀ b ∈ b1, b ∈ b2 → sizeB w b = 0
  | [], b2 => by simp [NodupB]
  | b :: b1, b2 => by
    simp only [List.cons_append, NodupB, NodupB_app (b1 := b1), List.mem_append, List.mem_cons]
    constructor
    · rintro ⟨h1, h2, h3, h4⟩
      exact ⟨⟨fun h => h1 (.inl h), h2⟩, h3, fun x hx hx2 => hx.elim (fun e => by subst e; exact h1 (.inr hx2)) fun hx => h4 x hx hx2⟩
    · rintro ⟨⟨h1, h2⟩, h3, h4⟩
      exact ⟨fun h => h.elim h1 (h4 b (.inl rfl)), h2, h3, fun x hx => h4 x (.inr hx)⟩
theorem FB_apart {b1 b2 : List Nat} : Foot.apart (FB w b1) (FB w b2) ↔ ∀ b ∈ b1, b ∈ b2 → sizeB w b = 0 := by
  constructor
  · intro h b h1 h2
    rcases Nat.eq_zero_or_pos (sizeB w b) with h3 | h3
    · exact h3
    · exact (h b 0 ⟨h1, h3⟩ ⟨h2, h3⟩).elim
  · intro h b o h1 h2
    have := h b h1.1 h2.1
    have := h1.2
    omega
/-- no block more often than there -/
def SubC (l' l : List Nat) : Prop := ∀ b, l'.count b ≤ l.count b
theorem SubC.refl (l : List Nat) : SubC l l := fun _ => Nat.le_refl _
theorem SubC.trans {l l' l'' : List Nat} (h : SubC l l') (h' : SubC l' l'') : SubC l l'' := fun b => Nat.le_trans (h b) (h' b)
theorem SubC.mem {l l' : List Nat} (h : SubC l' l) {b : Nat} (hb : b ∈ l') : b ∈ l := List.count_pos_iff.1 (Nat.lt_of_lt_of_le (List.count_pos_iff.2 hb) (h b))
theorem NodupB_iff : ∀ {bs : List Nat}, NodupB w bs ↔ ∀ b, sizeB w b ≠ 0 → bs.count b ≤ 1
  | [] => by simp [NodupB]
  | c :: bs => by
    simp only [NodupB, NodupB_iff (bs := bs), List.count_cons]
    constructor
    · rintro ⟨h1, h2⟩ b hb
      have := h2 b hb
      by_cases hc : c = b
      · subst hc
        have : bs.count c = 0 := List.count_eq_zero.2 fun hm => hb (h1 hm)
        simp [this]
      · simp [hc]; exact this
    · intro h
      refine ⟨fun hm => ?_, fun b hb => Nat.le_trans (Nat.le_add_right _ _) (h b hb)⟩
      rcases Nat.eq_zero_or_pos (sizeB w c) with h1 | h1
      · exact h1
      · have h2 := h c (by omega)
        have h3 := List.count_pos_iff.2 hm
        rw [if_pos (by simp)] at h2
        omega
theorem NodupB_sub {l l' : List Nat} (h : SubC l' l) (hn : NodupB w l) : NodupB w l' := by
  rw [NodupB_iff] at hn ⊢
  exact fun b hb => Nat.le_trans (h b) (hn b hb)
theorem NodupB_keeps (hk : Keeps A w w') : ∀ {bs : List Nat}, (∀ b ∈ bs, ∃ c el fz, Block w b c el fz) → NodupB w bs → NodupB w' bs
  | [], _, _ => trivial
  | b :: bs, hb, h => ⟨fun hm => by rw [sizeB_keeps hk (hb b (by simp))]; exact h.1 hm, NodupB_keeps hk (fun x hx => hb x (by simp [hx])) h.2⟩
theorem LeavesM.len : ∀ (es : List LT) {ms : List M} {vs : List Value} {ds : List T} {bs : List Nat}, LeavesM w I es ms vs ds bs → vs.length = es.length ∧ ds.length = es.length
  | [], _, _, _, _, h => by unfold LeavesM at h; obtain ⟨rfl, rfl, rfl⟩ := h; exact ⟨rfl, rfl⟩
  | e :: es, ms, _, _, _, h => by
    unfold LeavesM at h
    obtain ⟨v, vs', d, ds', b1, b2, rfl, rfl, rfl, h1, h2⟩ := h
    have := LeavesM.len es h2
    simp; omega
theorem LeavesM.split : ∀ (k : Nat) {es : List LT} {ms : List M} {vs : List Value} {ds : List T} {bs : List Nat}, LeavesM w I es ms vs ds bs →
    ∃ b1 b2, bs = b1 ++ b2 ∧ LeavesM w I (es.take k) ms (vs.take k) (ds.take k) b1 ∧ LeavesM w I (es.drop k) (ms.drop k) (vs.drop k) (ds.drop k) b2
  | 0, es, ms, vs, ds, bs, h => ⟨[], bs, rfl, by simp only [List.take_zero]; unfold LeavesM; exact ⟨rfl, rfl, rfl⟩, h⟩
  | k + 1, [], ms, vs, ds, bs, h => by
    unfold LeavesM at h
    obtain ⟨rfl, rfl, rfl⟩ := h
    refine ⟨[], [], rfl, ?_, ?_⟩ <;> simp only [List.take_nil, List.drop_nil] <;> unfold LeavesM <;> exact ⟨rfl, rfl, rfl⟩
  | k + 1, e :: es, ms, _, _, _, h => by
    unfold LeavesM at h
    obtain ⟨v, vs', d, ds', b1, b2, rfl, rfl, rfl, h1, h2⟩ := h
    obtain ⟨b3, b4, rfl, h3, h4⟩ := LeavesM.split k h2
    refine ⟨b1 ++ b3, b4, by simp, ?_, by simpa using h4⟩
    simp only [List.take_succ_cons]
    unfold LeavesM
    exact ⟨v, _, d, _, b1, b3, rfl, rfl, rfl, h1, h3⟩
theorem LeavesM.join : ∀ {es es' : List LT} {ms : List M} {vs vs' : List Value} {ds ds' : List T} {b1 b2 : List Nat}, LeavesM w I es ms vs ds b1 → LeavesM w I es' (ms.drop es.length) vs' ds' b2 →
    LeavesM w I (es ++ es') ms (vs ++ vs') (ds ++ ds') (b1 ++ b2)
  | [], es', ms, vs, vs', ds, ds', b1, b2, h, h' => by
    unfold LeavesM at h
    obtain ⟨rfl, rfl, rfl⟩ := h
    exact h'
  | e :: es, es', ms, _, vs', _, ds', _, b2, h, h' => by
    unfold LeavesM at h
    obtain ⟨v, vs1, d, ds1, b3, b4, rfl, rfl, rfl, h1, h2⟩ := h
    simp only [List.cons_append]
    unfold LeavesM
    exact ⟨v, _, d, _, b3, b4 ++ b2, rfl, rfl, by simp, h1, LeavesM.join h2 (by rw [show ms.tail.drop es.length = ms.drop (e :: es).length from by cases ms <;> simp]; exact h')⟩
mutual
/-- all of it is read -/
theorem CellM.leaf (hs : ∀ b o, I b o → S b o) : ∀ (lt : LT) {m : M} {v : Value} {d : T} {bs : List Nat}, (∀ b o, FB w bs b o → S b o) → CellM w I lt m v d bs → LeafR w S lt v d
  | .sc s, m, v, d, bs, hG, h => by unfold CellM at h; unfold LeafR; exact h.1
  | .sl es, .F, v, d, bs, hG, h => by unfold CellM at h; exact LeafR.mono hs (fun _ _ _ => rfl) _ h.1
  | .sl es, .O ms, v, d, bs, hG, h => by
    unfold CellM at h
    obtain ⟨rows, h1, h2, h3, h4⟩ := h
    unfold LeafR
    rcases h4 with ⟨⟨aa, rfl⟩, rfl, -⟩ | ⟨b, cap, c, el, fz, bs', rfl, rfl, h5, h6, h7, h8, h9⟩
    · exact ⟨aa, 0, [], h1, rfl, Nat.le_refl _, Nat.zero_le _, .inl rfl⟩
    · refine ⟨some ⟨b, 0, none⟩, cap, rows, h1, rfl, h5, h3, .inr ⟨b, 0, rfl, fun i hi => ?_⟩⟩
      rw [Nat.zero_add]
      obtain ⟨b', h10, h11⟩ := h9.get i hi
      have h12 := LeavesM.leaves hs es (fun b o hb => hG b o (FB_sub (fun x hx => by simp [h10 x hx]) b o hb)) h11
      have hl := h12.len.1
      have hm : (i + 1) * es.length ≤ cap * es.length := Nat.mul_le_mul_right _ (by omega)
      rw [Nat.add_mul, Nat.one_mul, ← h7] at hm
      refine RowR.of_leaves h12 (CellsAt.of_block h6 _ _ fun j hj => ?_) fun j hj => hG _ _ ⟨by simp, ?_⟩
      · simp only [List.getElem_take, List.getElem_drop, Array.getElem_toList]
        rw [Array.getElem?_eq_getElem (by omega)]
      · rw [sizeB_block h6]; omega
theorem LeavesM.leaves (hs : ∀ b o, I b o → S b o) : ∀ (es : List LT) {ms : List M} {vs : List Value} {ds : List T} {bs : List Nat}, (∀ b o, FB w bs b o → S b o) → LeavesM w I es ms vs ds bs → LeavesR w S es vs ds
  | [], ms, vs, ds, bs, hG, h => by unfold LeavesM at h; obtain ⟨rfl, rfl, rfl⟩ := h; trivial
  | e :: es, ms, vs, ds, bs, hG, h => by
    unfold LeavesM at h
    obtain ⟨v, vs', d, ds', b1, b2, rfl, rfl, rfl, h1, h2⟩ := h
    exact ⟨CellM.leaf hs e (fun b o hb => hG b o (FB_app.2 (.inl hb))) h1, LeavesM.leaves hs es (fun b o hb => hG b o (FB_app.2 (.inr hb))) h2⟩
end
mutual
theorem CellM.blocks : ∀ (lt : LT) {m : M} {v : Value} {d : T} {bs : List Nat}, CellM w I lt m v d bs → ∀ b ∈ bs, ∃ c el fz, Block w b c el fz
  | .sc s, m, v, d, bs, h => by unfold CellM at h; rw [h.2]; simp
  | .sl es, .F, v, d, bs, h => by unfold CellM at h; rw [h.2]; simp
  | .sl es, .O ms, v, d, bs, h => by
    unfold CellM at h
    obtain ⟨rows, h1, h2, h3, h4⟩ := h
    rcases h4 with ⟨-, rfl, rfl⟩ | ⟨b, cap, c, el, fz, bs', rfl, rfl, h5, h6, h7, h8, h9⟩
    · simp
    · intro x hx
      rcases List.mem_cons.1 hx with rfl | hx
      · exact ⟨c, el, fz, h6⟩
      · exact rowsBlocks (fun vs ds bs h => LeavesM.blocks es h) rows h9 x hx
theorem LeavesM.blocks : ∀ (es : List LT) {ms : List M} {vs : List Value} {ds : List T} {bs : List Nat}, LeavesM w I es ms vs ds bs → ∀ b ∈ bs, ∃ c el fz, Block w b c el fz
  | [], ms, vs, ds, bs, h => by unfold LeavesM at h; rw [h.2.2]; simp
  | e :: es, ms, vs, ds, bs, h => by
    unfold LeavesM at h
    obtain ⟨v, vs', d, ds', b1, b2, rfl, rfl, rfl, h1, h2⟩ := h
    intro x hx
    rcases List.mem_append.1 hx with hx | hx
    · exact CellM.blocks e h1 x hx
    · exact LeavesM.blocks es h2 x hx
theorem rowsBlocks {p : List Value → List T → List Nat → Prop} {sz : Nat} (hp : ∀ vs ds bs, p vs ds bs → ∀ b ∈ bs, ∃ c el fz, Block w b c el fz) : ∀ (rows : List (List T)) {cs : List Value} {bs : List Nat}, RowsOf p sz rows cs bs → ∀ b ∈ bs, ∃ c el fz, Block w b c el fz
  | [], cs, bs, h => by have h : bs = [] := h; subst h; simp
  | r :: rs, cs, bs, h => by
    obtain ⟨b1, b2, rfl, h1, h2⟩ := h
    intro x hx
    rcases List.mem_append.1 hx with hx | hx
    · exact hp _ _ _ h1 x hx
    · exact rowsBlocks hp rs h2 x hx
end
mutual
theorem CellM.keep (hk : Keeps A w w') (hI : ∀ b o, I b o → I' b o ∧ cellAt w' b o = cellAt w b o) : ∀ (lt : LT) {m : M} {v : Value} {d : T} {bs : List Nat}, (∀ b o, FB w bs b o → A b o) → CellM w I lt m v d bs → CellM w' I' lt m v d bs
  | .sc s, m, v, d, bs, hA, h => by unfold CellM at *; exact h
  | .sl es, .F, v, d, bs, hA, h => by unfold CellM at h ⊢; exact ⟨LeafR.mono (fun b o h => (hI b o h).1) (fun b o h => (hI b o h).2) _ h.1, h.2⟩
  | .sl es, .O ms, v, d, bs, hA, h => by
    unfold CellM at h ⊢
    obtain ⟨rows, h1, h2, h3, h4⟩ := h
    refine ⟨rows, h1, h2, h3, ?_⟩
    rcases h4 with h4 | ⟨b, cap, c, el, fz, bs', rfl, rfl, h5, h6, h7, h8, h9⟩
    · exact .inl h4
    · right
      obtain ⟨c', hb, hsz, hcc⟩ := hk.block h6
      have e : c' = c := by
        apply Array.ext hsz
        intro i hi1 hi2
        have := hcc i (hA _ _ ⟨by simp, by rw [sizeB_block h6]; exact hi2⟩)
        rw [Array.getElem?_eq_getElem hi1, Array.getElem?_eq_getElem hi2] at this
        exact Option.some.inj this
      subst e
      refine ⟨b, cap, c', el, fz, bs', rfl, rfl, h5, hb, h7, h8, RowsOf.imp (fun vs ds b' hb' h => ?_) h9⟩
      exact LeavesM.keep hk hI es (fun b o hb => hA b o (FB_sub (fun x hx => by simp [hb' x hx]) b o hb)) h
theorem LeavesM.keep (hk : Keeps A w w') (hI : ∀ b o, I b o → I' b o ∧ cellAt w' b o = cellAt w b o) : ∀ (es : List LT) {ms : List M} {vs : List Value} {ds : List T} {bs : List Nat}, (∀ b o, FB w bs b o → A b o) → LeavesM w I es ms vs ds bs → LeavesM w' I' es ms vs ds bs
  | [], ms, vs, ds, bs, hA, h => by unfold LeavesM at *; exact h
  | e :: es, ms, vs, ds, bs, hA, h => by
    unfold LeavesM at h ⊢
    obtain ⟨v, vs', d, ds', b1, b2, rfl, rfl, rfl, h1, h2⟩ := h
    exact ⟨v, vs', d, ds', b1, b2, rfl, rfl, rfl, CellM.keep hk hI e (fun b o hb => hA b o (FB_app.2 (.inl hb))) h1, LeavesM.keep hk hI es (fun b o hb => hA b o (FB_app.2 (.inr hb))) h2⟩
end
theorem CellM.same {lt : LT} {m : M} {v : Value} {d : T} {bs : List Nat} (hI : ∀ b o, I b o → I' b o) (h : CellM w I lt m v d bs) : CellM w I' lt m v d bs :=
  CellM.keep (Keeps.refl (fun _ _ => True) w) (fun b o hb => ⟨hI b o hb, rfl⟩) lt (fun _ _ _ => trivial) h
theorem LeavesM.same {es : List LT} {ms : List M} {vs : List Value} {ds : List T} {bs : List Nat} (hI : ∀ b o, I b o → I' b o) (h : LeavesM w I es ms vs ds bs) : LeavesM w I' es ms vs ds bs :=
  LeavesM.keep (Keeps.refl (fun _ _ => True) w) (fun b o hb => ⟨hI b o hb, rfl⟩) es (fun _ _ _ => trivial) h
theorem CellM.single {lt : LT} {m : M} {v : Value} {d : T} {bs : List Nat} (h : CellM w I lt m v d bs) : Single v :=
  (CellM.leaf (S := fun _ _ => True) (fun _ _ _ => trivial) lt (fun _ _ _ => trivial) h).single
theorem getD_tail {ms : List M} (j : Nat) : ms.tail.getD j .F = ms.getD (j + 1) .F := by cases ms <;> simp [List.getD]
/-- leaf by leaf -/
theorem LeavesM.each : ∀ {es : List LT} {ms : List M} {vs : List Value} {ds : List T} {bs : List Nat}, LeavesM w I es ms vs ds bs → ∃ Bs : List (List Nat), Bs.length = es.length ∧ bs = Bs.flatten ∧
    ∀ j (h : j < es.length), CellM w I es[j] (ms.getD j .F) (vs.getD j .nilIface) (ds.getD j dflt) (Bs.getD j [])
  | [], ms, _, _, _, h => by
    unfold LeavesM at h
    obtain ⟨rfl, rfl, rfl⟩ := h
    exact ⟨[], rfl, rfl, fun j h => by simp at h⟩
  | e :: es, ms, _, _, _, h => by
    unfold LeavesM at h
    obtain ⟨v, vs', d, ds', b1, b2, rfl, rfl, rfl, h1, h2⟩ := h
    obtain ⟨Bs, h3, rfl, h4⟩ := LeavesM.each h2
    refine ⟨b1 :: Bs, by simp [h3], by simp, fun j hj => ?_⟩
    cases j with
    | zero => cases ms <;> simpa using h1
    | succ j =>
      have := h4 j (by simpa using hj)
      rw [getD_tail] at this
      simpa using this
theorem noO_head {ms : List M} (h : noO ms) : ms.headD .F = .F := by
  cases ms with
  | nil => rfl
  | cons m ms => cases m with
    | F => rfl
    | O x => exact absurd rfl (h (.O x) (by simp) x)
theorem noO_tail {ms : List M} (h : noO ms) : noO ms.tail := fun m hm => h m (List.mem_of_mem_tail hm)
theorem LeavesM.flat : ∀ (es : List LT) {ms : List M} {vs : List Value} {ds : List T} {bs : List Nat}, noO ms → LeavesM w I es ms vs ds bs → bs = [] ∧ LeavesR w I es vs ds
  | [], ms, vs, ds, bs, hm, h => by unfold LeavesM at h; obtain ⟨rfl, rfl, rfl⟩ := h; exact ⟨rfl, trivial⟩
  | e :: es, ms, vs, ds, bs, hm, h => by
    unfold LeavesM at h
    obtain ⟨v, vs', d, ds', b1, b2, rfl, rfl, rfl, h1, h2⟩ := h
    obtain ⟨rfl, h3⟩ := LeavesM.flat es (noO_tail hm) h2
    rw [noO_head hm] at h1
    cases e with
    | sc s => unfold CellM at h1; obtain ⟨h4, rfl⟩ := h1; exact ⟨rfl, by unfold LeafR; exact h4, h3⟩
    | sl es' => unfold CellM at h1; obtain ⟨h4, rfl⟩ := h1; exact ⟨rfl, h4, h3⟩
theorem LeavesM.of_flat : ∀ {es : List LT} {ms : List M} {vs : List Value} {ds : List T}, noO ms → LeavesR w I es vs ds → LeavesM w I es ms vs ds []
  | [], ms, [], [], hm, h => by unfold LeavesM; exact ⟨rfl, rfl, rfl⟩
  | e :: es, ms, v :: vs, d :: ds, hm, h => by
    unfold LeavesM
    refine ⟨v, vs, d, ds, [], [], rfl, rfl, rfl, ?_, LeavesM.of_flat (noO_tail hm) h.2⟩
    rw [noO_head hm]
    have h1 := h.1
    cases e with
    | sc s => unfold CellM; unfold LeafR at h1; exact ⟨h1, rfl⟩
    | sl es' => unfold CellM; exact ⟨h1, rfl⟩
  | [], _, _ :: _, _, _, h => h.elim
  | [], _, [], _ :: _, _, h => h.elim
  | _ :: _, _, [], _, _, h => h.elim
  | _ :: _, _, _ :: _, [], _, h => h.elim
theorem rows_flat {es : List LT} {ms : List M} {sz : Nat} (hm : noO ms) : ∀ {rows : List (List T)} {cs : List Value} {bs : List Nat}, RowsOf (fun vs ds bs => LeavesM w I es ms vs ds bs) sz rows cs bs → bs = []
  | [], cs, bs, h => h
  | r :: rs, cs, bs, h => by
    obtain ⟨b1, b2, rfl, h1, h2⟩ := h
    rw [(LeavesM.flat es hm h1).1, rows_flat hm h2]; rfl
/-! a chunk of rows -/
theorem RowOwn.cases {es : List LT} {ms : List M} {rows : List (List T)} {h : Value} {F : Foot} (hr : RowOwn w I es ms rows h F) : es ≠ [] ∧ rows.length ≤ maxCells ∧
    (((∃ a, h = .slice a 0 0) ∧ rows = [] ∧ ∀ b o, ¬ F b o) ∨
     ∃ b cap c el fz bs, h = .slice (some ⟨b, 0, none⟩) rows.length cap ∧ rows.length ≤ cap ∧ Block w b c el fz ∧ c.size = cap * es.length ∧ (∀ o, o ≤ c.size → ¬ (fz.1 ≤ o ∧ o < fz.2)) ∧
       RowsOf (fun vs ds bs => LeavesM w I es ms vs ds bs) es.length rows c.toList bs ∧ NodupB w (b :: bs) ∧ ∀ b' o, F b' o ↔ (b' = b ∧ o < c.size) ∨ FB w bs b' o) := by
  obtain ⟨bs, hn, hc, hF⟩ := hr
  unfold CellM at hc
  obtain ⟨rows', h1, h2, h3, h4⟩ := hc
  cases h1
  refine ⟨h2, h3, ?_⟩
  rcases h4 with ⟨h4, rfl, rfl⟩ | ⟨b, cap, c, el, fz, bs', rfl, rfl, h5, h6, h7, h8, h9⟩
  · exact .inl ⟨h4, rfl, fun b o hb => by have := ((hF b o).1 hb).1; cases this⟩
  · exact .inr ⟨b, cap, c, el, fz, bs', rfl, h5, h6, h7, h8, h9, hn, fun b' o => by rw [hF b' o, FB_cons, sizeB_block h6]⟩
theorem RowOwn.nil {es : List LT} {ms : List M} {F : Foot} {aa : Option Addr} (hes : es ≠ []) (hF : ∀ b o, ¬ F b o) : RowOwn w I es ms [] (.slice aa 0 0) F :=
  ⟨[], trivial, by unfold CellM; exact ⟨[], rfl, hes, Nat.zero_le _, .inl ⟨⟨_, rfl⟩, rfl, rfl⟩⟩, fun b o => ⟨fun h => (hF b o h).elim, fun h => by have := h.1; cases this⟩⟩
theorem RowOwn.mk' {es : List LT} {ms : List M} {rows : List (List T)} {F : Foot} {b cap : Nat} {c : Array Value} {el : TypeId} {fz : Nat × Nat} {bs : List Nat} (hes : es ≠ []) (h1 : rows.length ≤ maxCells) (h2 : rows.length ≤ cap) (h3 : Block w b c el fz)
    (h4 : c.size = cap * es.length) (h5 : ∀ o, o ≤ c.size → ¬ (fz.1 ≤ o ∧ o < fz.2)) (h6 : RowsOf (fun vs ds bs => LeavesM w I es ms vs ds bs) es.length rows c.toList bs) (h7 : NodupB w (b :: bs))
    (h8 : ∀ b' o, F b' o ↔ (b' = b ∧ o < c.size) ∨ FB w bs b' o) : RowOwn w I es ms rows (.slice (some ⟨b, 0, none⟩) rows.length cap) F :=
  ⟨b :: bs, h7, by unfold CellM; exact ⟨rows, rfl, hes, h1, .inr ⟨b, cap, c, el, fz, bs, rfl, rfl, h2, h3, h4, h5, h6⟩⟩, fun b' o => by rw [h8, FB_cons, sizeB_block h3]⟩
theorem RowOwn.leaf {es : List LT} {ms : List M} {rows : List (List T)} {h : Value} {F : Foot} (hr : RowOwn w I es ms rows h F) (hs : ∀ b o, I b o → S b o) (hf : ∀ b o, F b o → S b o) :
    LeafR w S (.sl es) h (.l rows) := by
  obtain ⟨bs, hn, hc, hF⟩ := hr
  exact CellM.leaf hs _ (fun b o hb => hf b o ((hF b o).2 hb)) hc
theorem RowOwn.keep {es : List LT} {ms : List M} {rows : List (List T)} {h : Value} {F : Foot} (hr : RowOwn w I es ms rows h F) (hk : Keeps A w w') (hA : ∀ b o, F b o → A b o)
    (hI : ∀ b o, I b o → I' b o ∧ cellAt w' b o = cellAt w b o) : RowOwn w' I' es ms rows h F := by
  obtain ⟨bs, hn, hc, hF⟩ := hr
  exact ⟨bs, NodupB_keeps hk (CellM.blocks _ hc) hn, CellM.keep hk hI _ (fun b o hb => hA b o ((hF b o).2 hb)) hc, fun b o => (hF b o).trans (FB_keeps hk (CellM.blocks _ hc) b o).symm⟩
theorem RowOwn.same {es : List LT} {ms : List M} {rows : List (List T)} {h : Value} {F : Foot} (hs : ∀ b o, I b o → I' b o) (hr : RowOwn w I es ms rows h F) : RowOwn w I' es ms rows h F :=
  hr.keep (Keeps.refl (fun _ _ => True) w) (fun _ _ _ => trivial) fun b o hb => ⟨hs b o hb, rfl⟩
theorem RowOwn.cell {es : List LT} {ms : List M} {rows : List (List T)} {h : Value} {F : Foot} (hr : RowOwn w I es ms rows h F) {b o : Nat} (hf : F b o) : ∃ v, cellAt w b o = some v := by
  obtain ⟨bs, hn, hc, hF⟩ := hr
  exact FB_cell ((hF b o).1 hf)
/-- one row of it: its values -/
theorem RowOwn.row {es : List LT} {ms : List M} {rows : List (List T)} {h : Value} {F : Foot} (hr : RowOwn w I es ms rows h F) {r : Nat} (h5 : r < rows.length) :
    ∃ b cap vs bs, h = .slice (some ⟨b, 0, none⟩) rows.length cap ∧ CellsAt w b (r * es.length) vs ∧ LeavesM w I es ms vs rows[r] bs ∧ (∀ b' o, FB w bs b' o → F b' o) ∧ (∀ j, j < es.length → F b (r * es.length + j)) := by
  obtain ⟨-, -, hown⟩ := hr.cases
  rcases hown with ⟨-, rfl, -⟩ | ⟨b, cap, c, el, fz, bs, rfl, h6, h7, h8, h9, h10, h11, h12⟩
  · simp at h5
  · obtain ⟨b', h13, h14⟩ := h10.get r h5
    have hl := LeavesM.len es h14
    have hm : (r + 1) * es.length ≤ cap * es.length := Nat.mul_le_mul_right _ (by omega)
    rw [Nat.add_mul, Nat.one_mul, ← h8] at hm
    refine ⟨b, cap, _, b', rfl, CellsAt.of_block h7 _ _ fun j hj => ?_, h14, fun b'' o hb => (h12 b'' o).2 (.inr (FB_sub h13 b'' o hb)), fun j hj => (h12 _ _).2 (.inl ⟨rfl, by omega⟩)⟩
    simp only [List.getElem_take, List.getElem_drop, Array.getElem_toList]
    rw [Array.getElem?_eq_getElem (by omega)]
end
/-! blocks, list by list -/
section
variable {w : World}
theorem flat_mem {Bs : List (List Nat)} {j b : Nat} (h : b ∈ Bs.getD j []) : b ∈ Bs.flatten := by
  rw [List.getD] at h
  cases hj : Bs[j]? with
  | none => rw [hj] at h; cases h
  | some l => rw [hj] at h; exact List.mem_flatten.2 ⟨l, List.mem_of_getElem? hj, h⟩
theorem flat_nodup : ∀ {Bs : List (List Nat)}, NodupB w Bs.flatten → ∀ j, NodupB w (Bs.getD j [])
  | [], _, j => by simp [NodupB]
  | l :: Bs, h, j => by
    simp only [List.flatten_cons] at h
    obtain ⟨h1, h2, -⟩ := NodupB_app.1 h
    cases j with
    | zero => simpa using h1
    | succ j => simpa using flat_nodup h2 j
theorem flat_apart : ∀ {Bs : List (List Nat)}, NodupB w Bs.flatten → ∀ i j, i ≠ j → Foot.apart (FB w (Bs.getD i [])) (FB w (Bs.getD j []))
  | [], _, i, j, _ => fun b o h _ => by simp [FB] at h
  | l :: Bs, h, i, j, hij => by
    simp only [List.flatten_cons] at h
    obtain ⟨h1, h2, h3⟩ := NodupB_app.1 h
    have key : ∀ j, Foot.apart (FB w l) (FB w (Bs.getD j [])) := fun j => fun b o h4 h5 => FB_apart.2 h3 b o h4 (FB_sub (fun x hx => flat_mem hx) b o h5)
    cases i with
    | zero =>
      cases j with
      | zero => exact absurd rfl hij
      | succ j => simpa using key j
    | succ i =>
      cases j with
      | zero => exact fun b o h4 h5 => key i b o (by simpa using h5) (by simpa using h4)
      | succ j => simpa using flat_apart h2 i j (by omega)
end
/-! modes -/
mutual
theorem M.beq_eq : ∀ {a b : M}, M.beq a b = true → a = b
  | .F, .F, _ => rfl
  | .O a, .O b, h => congrArg M.O (M.beqs_eq (a := a) (b := b) (by simpa [M.beq] using h))
  | .F, .O _, h => by simp [M.beq] at h
  | .O _, .F, h => by simp [M.beq] at h
theorem M.beqs_eq : ∀ {a b : List M}, M.beqs a b = true → a = b
  | [], [], _ => rfl
  | a :: az, b :: bs, h => by
    simp only [M.beqs, Bool.and_eq_true] at h
    rw [M.beq_eq h.1, M.beqs_eq h.2]
  | [], _ :: _, h => by simp [M.beqs] at h
  | _ :: _, [], h => by simp [M.beqs] at h
end
theorem noOB_iff {ms : List M} (h : noOB ms = true) : noO ms := by
  intro m hm x e
  have := List.all_eq_true.1 h m hm
  subst e
  simp at this
end Go.E

namespace Go.E
open Go

section
variable {w : World} {I S A : Foot}
end

section
variable {Γ : Ctx} {P : Program} {cf : FuncId → List Arg → R3 Ret}
variable {n : Fr} {σ : S} {g : Gh} {I : Foot} {a : Act} {w : World}
variable {o : Oper} {f : FuncId} {tr : Tr} {Q : S → Tr → Prop} {K : Act → World → Prop} {Qm : Exit → Act → World → Prop}

theorem depFoot_nil (κ : Key → KE) : ∀ b o, I b o → depFoot κ g I [] b o := fun _ _ h => .inl h
theorem cur_nil (κ : Key → KE) : Cur κ [] := fun _ h => (nomatch h)
theorem old_nil (κ : Key → KE) : Old κ [] := fun _ h => (nomatch h)
theorem viewSl_wpK (hR : R n σ g I a w) {l : Leaf} {v : Value} {k : List LT → List (List T) → List Dep → Prog} (hl : LfR σ.k g w I l v) (h : (viewSl l k).wp cf σ tr Q) :
    ∃ es rows deps tr', (k es rows deps).wp cf σ tr' Q ∧ LeafR w (depFoot σ.k g I deps) (.sl es) v (.l rows) ∧ Cur σ.k deps ∧ Old σ.k deps ∧ ∀ d ∈ deps, d.1 ∈ leafKeys l := by
  obtain ⟨st, lt, d⟩ := l
  obtain ⟨hs, hl⟩ := hl
  unfold viewSl at h
  simp only at h hl
  cases lt with
  | sc s => cases st <;> exact h.elim
  | sl es =>
    cases st with
    | sc => exact h.elim
    | dead => exact h.elim
    | nl =>
      obtain ⟨-, rfl, rfl⟩ := hl
      refine ⟨es, [], [], tr, h, ?_, cur_nil _, old_nil _, fun _ h => (nomatch h)⟩
      unfold LeafR
      exact ⟨none, 0, [], rfl, rfl, Nat.le_refl _, Nat.zero_le _, .inl rfl⟩
    | sn ds =>
      obtain ⟨-, h1, h2⟩ := hl
      obtain ⟨h3, tr', h4⟩ := depsOk_wp h
      have h5 := h2 h3
      obtain ⟨x, y, rows, rfl, h6⟩ := by unfold LeafR at h5; exact h5
      exact ⟨es, _, ds, tr', h4, h2 h3, h3, h1, fun d hd => List.mem_map.2 ⟨d, hd, rfl⟩⟩
    | sb key m cv r off =>
      obtain ⟨-, -, h1, h2⟩ := hl
      obtain ⟨h3, tr', h4⟩ := depsOk_wp h
      have h5 := (h2 h3).1
      obtain ⟨x, y, rows, rfl, h6⟩ := by unfold LeafR at h5; exact h5
      exact ⟨es, _, [(key, cv)], tr', h4, (h2 h3).1, h3, h1, fun d hd => by rw [List.mem_singleton.1 hd]; exact List.mem_singleton.2 rfl⟩
    | al key m =>
      obtain ⟨-, h1, h2⟩ := hl
      obtain ⟨h3, h⟩ := h
      have h4 := h2 (Nat.eq_of_beq_eq_true h3)
      subst h4
      have hch := hR.chs key
      split at h
      · rename_i es' ms rows e
        rw [e] at hch
        refine ⟨es', rows, _, _, h, RowOwn.leaf hch (fun _ _ h => .inl h) (fun b o' hf => .inr ⟨_, List.mem_singleton.2 rfl, .inr ⟨by simp only [e]; trivial, hf⟩⟩), ?_, ?_, fun d hd => by rw [List.mem_singleton.1 hd]; exact List.mem_singleton.2 rfl⟩
        · intro d hd; rw [List.mem_singleton.1 hd]
        · intro d hd; rw [List.mem_singleton.1 hd]; exact Nat.le_refl _
      · rename_i es' rows e
        rw [e] at hch
        exact ⟨es', rows, [], _, h, LeafR.mono (depFoot_nil _) (fun _ _ _ => rfl) _ hch, cur_nil _, old_nil _, fun _ h => (nomatch h)⟩
      · exact h.elim
theorem viewSl_wp (hR : R n σ g I a w) {l : Leaf} {v : Value} {k : List LT → List (List T) → List Dep → Prog} (hl : LfR σ.k g w I l v) (h : (viewSl l k).wp cf σ tr Q) :
    ∃ es rows deps tr', (k es rows deps).wp cf σ tr' Q ∧ LeafR w (depFoot σ.k g I deps) (.sl es) v (.l rows) ∧ Cur σ.k deps ∧ Old σ.k deps := by
  obtain ⟨es, rows, deps, tr', h1, h2, h3, h4, -⟩ := viewSl_wpK hR hl h
  exact ⟨es, rows, deps, tr', h1, h2, h3, h4⟩
end
end Go.E

namespace Go.E
open Go

section
variable {P : Program} {w : World} {I S A : Foot}
theorem addr_add (b o k : Nat) : Addr.add ⟨b, o, none⟩ k = ⟨b, o + k, none⟩ := by
  unfold Addr.add
  split
  · rename_i h; subst h; rfl
  · rfl
theorem run_load {b o : Nat} {v : Value} (h : cellAt w b o = some v) : (load ⟨b, o, none⟩).run P w = .ok v w := by
  unfold cellAt at h
  simp [load, Sem.run, h]
theorem run_loadCellsFrom {b o : Nat} : ∀ (vs : List Value) (i : Nat) (acc : Array Value), CellsAt w b (o + i) vs →
    (loadCellsFrom ⟨b, o, none⟩ i vs.length acc).run P w = .ok (acc ++ vs.toArray) w
  | [], i, acc, h => by simp [loadCellsFrom]
  | v :: vs, i, acc, h => by
    simp only [List.length_cons, loadCellsFrom, Sem.run_bind, addr_add, run_load h.1, Result.andThen_ok]
    rw [run_loadCellsFrom vs (i + 1) (acc.push v) (by have := h.2; rwa [show o + i + 1 = o + (i + 1) from by omega] at this)]
    simp
theorem run_loadCells {b o : Nat} {vs : List Value} (h : CellsAt w b o vs) : (loadCells ⟨b, o, none⟩ vs.length).run P w = .ok vs.toArray w := by
  unfold loadCells
  rw [run_loadCellsFrom vs 0 #[] (by simpa using h)]
  simp
end

section
variable {Γ : Ctx} {P : Program} {w : World}
theorem run_isAgg {t : TypeId} {ti : TI} (h : TyOk Γ P t ti) : (isAgg t).run P w = .ok (isAggK ti.kind) w := by
  obtain ⟨d, h1, h2⟩ := h.und
  simp only [isAgg, Sem.run_bind, run_underlying h1, Result.andThen_ok]
  cases hk : ti.kind with
  | sc s => rw [hk] at h2; cases s <;> first | (obtain ⟨rfl, -⟩ := h2; rfl) | exact h2.elim
  | slice e => rw [hk] at h2; obtain ⟨rfl, -⟩ := h2; rfl
  | struct fs => rw [hk] at h2; obtain ⟨fields, rfl, -⟩ := h2; rfl
  | array m e => rw [hk] at h2; cases h2; rfl
  | ptr e => rw [hk] at h2; obtain ⟨rfl, -⟩ := h2; rfl
  | other =>
    rw [hk] at h2
    cases d <;> first | rfl | exact absurd rfl (h2.1 _) | exact absurd rfl (h2.2.1 _ _)
theorem run_sizeOf {t : TypeId} {ti : TI} (h : TyOk Γ P t ti) : (sizeOf t).run P w = .ok ti.lts.length w := by
  obtain ⟨i, h1, h2, -⟩ := h.info
  simp [sizeOf, typeInfo, h1, h2, go_sem]
theorem run_loadVar {t : TypeId} {ti : TI} (h : TyOk Γ P t ti) {b o : Nat} {vs : List Value} (hv : CellsAt w b o vs) (hn : vs.length = ti.lts.length) :
    (isAggK ti.kind = true → (loadVar t ⟨b, o, none⟩).run P w = .ok (.agg vs.toArray) w) ∧
    (isAggK ti.kind = false → ∀ v, vs = [v] → (loadVar t ⟨b, o, none⟩).run P w = .ok v w) := by
  constructor
  · intro ha
    simp only [loadVar, Sem.run_bind, run_isAgg h, ha, Result.andThen_ok, if_true, run_sizeOf h]
    rw [← hn]
    simp [run_loadCells hv]
  · rintro ha v rfl
    simp only [loadVar, Sem.run_bind, run_isAgg h, ha, Result.andThen_ok, Bool.false_eq_true, if_false]
    exact run_load hv.1
theorem notAgg_len {t : TypeId} {ti : TI} (h : TyOk Γ P t ti) (ha : isAggK ti.kind = false) : ti.lts.length = 1 := by
  obtain ⟨d, h1, h2⟩ := h.und
  cases hk : ti.kind with
  | sc s => rw [hk] at h2; cases s <;> first | (rw [h2.2]; rfl) | exact h2.elim
  | slice e => rw [hk] at h2; obtain ⟨-, te, -, h3, -⟩ := h2; rw [h3]; rfl
  | struct fs => rw [hk] at ha; cases ha
  | array m e => rw [hk] at ha; cases ha
  | ptr e => rw [hk] at h2; rw [h2.2]; rfl
  | other => rw [hk] at h2; rw [h2.2.2]; rfl
theorem run_load_op {ρ : Operand → Value} {o : Oper} {t : TypeId} {x : Operand} {b o' : Nat} {v : Value} (hop : o.op = .load t x) (hx : ρ x = .pointer (some ⟨b, o', none⟩))
    (h : (loadVar t ⟨b, o', none⟩).run P w = .ok v w) : (execOp ρ o).run P w = .ok (.value v) w := by
  have h1 : (Instr.loadAt t (ρ x)).run P w = .ok v w := by
    simp only [Instr.loadAt, hx, Instr.sureAddr, pure_bind]
    exact h
  simp only [execOp, hop]
  rw [Sem.run_bind, h1]
  rfl
end

section
variable {Γ : Ctx} {P : Program} {cf : FuncId → List Arg → R3 Ret}
variable {n : Fr} {σ : S} {g : Gh} {I : Foot} {a : Act} {w : World}
variable {o : Oper} {f : FuncId} {tr : Tr} {Q : S → Tr → Prop} {K : Act → World → Prop} {Qm : Exit → Act → World → Prop}

theorem LfsR.drop {κ : Key → KE} : ∀ {ls : List Leaf} {vs : List Value} (k : Nat), LfsR κ g w I ls vs → LfsR κ g w I (ls.drop k) (vs.drop k)
  | ls, vs, 0, h => h
  | [], [], k + 1, h => trivial
  | _ :: ls, _ :: vs, k + 1, h => LfsR.drop k h.2
  | [], _ :: _, _ + 1, h => h.elim
  | _ :: _, [], _ + 1, h => h.elim
theorem LfsR.take {κ : Key → KE} : ∀ {ls : List Leaf} {vs : List Value} (k : Nat), LfsR κ g w I ls vs → LfsR κ g w I (ls.take k) (vs.take k)
  | ls, vs, 0, h => trivial
  | [], [], k + 1, h => trivial
  | _ :: ls, _ :: vs, k + 1, h => ⟨h.1, LfsR.take k h.2⟩
  | [], _ :: _, _ + 1, h => h.elim
  | _ :: _, [], _ + 1, h => h.elim
theorem LfsR.len {κ : Key → KE} : ∀ {ls : List Leaf} {vs : List Value}, LfsR κ g w I ls vs → vs.length = ls.length
  | [], [], h => rfl
  | _ :: ls, _ :: vs, h => by have := LfsR.len h.2; simp; omega
  | [], _ :: _, h => h.elim
  | _ :: _, [], h => h.elim
theorem leafOf_ok {κ : Key → KE} {deps : List Dep} {lt : LT} {v : Value} {d : T} (ho : Old κ deps) (hi : ∀ b o, I b o → depFoot κ g I deps b o)
    (h : LeafR w (depFoot κ g I deps) lt v d) : LfR κ g w I (leafOf deps lt d) v := by
  unfold leafOf
  cases lt with
  | sl es => exact ⟨h.single, trivial, ho, fun _ => h⟩
  | sc s => refine ⟨h.single, s, rfl, ?_⟩; unfold LeafR at h; exact h
theorem getD_map_range {α β : Type} (f : Nat → α) (n : Nat) : (List.range n).map f = (List.range' 0 n).map f := by rw [List.range_eq_range']
/-- leaves built by place are related to the first values -/
theorem byPlace_ok {κ : Key → KE} {S : Foot} {mk : LT → T → Leaf} (hmk : ∀ lt v d, LeafR w S lt v d → LfR κ g w I (mk lt d) v) :
    ∀ (size : Nat) {es : List LT} {vs : List Value} {ds : List T}, LeavesR w S es vs ds → size ≤ es.length →
    LfsR κ g w I ((List.range size).map fun j => mk (es.getD j default) (ds.getD j dflt)) (vs.take size)
  | 0, es, vs, ds, h, hn => trivial
  | size + 1, [], _, _, h, hn => by simp at hn
  | size + 1, e :: es, [], ds, h, hn => h.elim
  | size + 1, e :: es, v :: vs, [], h, hn => h.elim
  | size + 1, e :: es, v :: vs, d :: ds, h, hn => by
    rw [List.range_succ_eq_map, List.map_cons, List.map_map]
    exact ⟨hmk _ _ _ h.1, byPlace_ok hmk size h.2 (by simpa using hn)⟩

theorem getD_drop {α : Type} (l : List α) (k j : Nat) (d : α) : (l.drop k).getD j d = l.getD (k + j) d := by
  simp [List.getD, List.getElem?_drop]
theorem modeLeaf_ok {κ : Key → KE} {key : Key} {r off : Nat} {lt : LT} {m : M} {v : Value} {d : T} {bs : List Nat} (hl : Live (κ key).ch) (hb : ∀ b o, FB w bs b o → g.F key b o)
    (hloc : ∃ b o, addrIn (chEsz (κ key).ch) (g.h key) r off = some (b, o) ∧ cellAt w b o = some v ∧ g.F key b o) (h : CellM w I lt m v d bs) :
    LfR κ g w I (modeLeaf key (κ key).idv (κ key).cv r off lt m d) v := by
  have hs := h.single
  unfold modeLeaf
  cases lt with
  | sc s =>
    unfold CellM at h
    cases m <;> exact ⟨hs, s, rfl, h.1⟩
  | sl es =>
    cases m with
    | F =>
      unfold CellM at h
      exact ⟨hs, trivial, old_nil _, fun _ => LeafR.mono (depFoot_nil _) (fun _ _ _ => rfl) _ h.1⟩
    | O x =>
      have hdep : ∀ b o, g.F key b o → depFoot κ g I [(key, (κ key).cv)] b o := fun b o hf => .inr ⟨_, List.mem_singleton.2 rfl, .inr ⟨hl, hf⟩⟩
      refine ⟨hs, trivial, Nat.le_refl _, fun d hd => by rw [List.mem_singleton.1 hd]; exact Nat.le_refl _, fun _ => ⟨CellM.leaf (fun b o hi => .inl hi) _ (fun b o hf => hdep b o (hb b o hf)) h, fun _ => ?_⟩⟩
      obtain ⟨b, o, h1, h2, h3⟩ := hloc
      exact ⟨b, o, h1, h2, hdep b o h3⟩
theorem noO_getD {ms : List M} (h : noO ms) (j : Nat) : ∀ x, ms.getD j .F ≠ .O x := by
  intro x
  rw [List.getD]
  cases hj : ms[j]? with
  | none => simp
  | some m => simpa using h m (List.mem_of_getElem? hj) x
theorem rowLeaves_ok {κ : Key → KE} {key : Key} {r off size b o0 : Nat} {es : List LT} {ms : List M} {row : List T} {vs : List Value} {bs : List Nat} (hl : Live (κ key).ch) (hb : ∀ b o, FB w bs b o → g.F key b o)
    (hloc : ∀ j, j < es.length → addrIn (chEsz (κ key).ch) (g.h key) r j = some (b, o0 + j) ∧ g.F key b (o0 + j)) (hc : CellsAt w b o0 vs)
    (h : LeavesM w I es ms vs row bs) (hn : off + size ≤ es.length) : LfsR κ g w I (rowLeaves key (κ key).idv (κ key).cv r off size es ms row) ((vs.drop off).take size) := by
  have aux : ∀ (size k : Nat) (es : List LT) (ms : List M) (vs : List Value) (ds : List T) (bs : List Nat), LeavesM w I es ms vs ds bs → (∀ b o, FB w bs b o → g.F key b o) →
      (∀ j v, vs[j]? = some v → ∃ b o, addrIn (chEsz (κ key).ch) (g.h key) r (k + j) = some (b, o) ∧ cellAt w b o = some v ∧ g.F key b o) → size ≤ es.length →
      LfsR κ g w I ((List.range size).map fun j => modeLeaf key (κ key).idv (κ key).cv r (k + j) (es.getD j default) (ms.getD j .F) (ds.getD j dflt)) (vs.take size) := by
    intro size
    induction size with
    | zero => intros; trivial
    | succ size ih =>
      intro k es ms vs ds bs h hb hloc hn
      cases es with
      | nil => simp at hn
      | cons e es =>
        unfold LeavesM at h
        obtain ⟨v, vs', d, ds', b1, b2, rfl, rfl, rfl, h1, h2⟩ := h
        rw [List.range_succ_eq_map, List.map_cons, List.map_map]
        refine ⟨?_, ?_⟩
        · have := modeLeaf_ok (m := ms.headD .F) hl (fun b o hf => hb b o (FB_app.2 (.inl hf))) (hloc 0 v (by simp)) h1
          cases ms <;> simpa using this
        · have := ih (k + 1) es ms.tail vs' ds' b2 h2 (fun b o hf => hb b o (FB_app.2 (.inr hf))) (fun j v hv => by
            have := hloc (j + 1) v (by simpa using hv)
            rwa [show k + (j + 1) = k + 1 + j from by omega] at this) (by simpa using hn)
          have e1 : ∀ j, ms.tail.getD j .F = ms.getD (j + 1) .F := fun j => by cases ms <;> simp [List.getD]
          simpa [Function.comp_def, Nat.add_assoc, Nat.add_comm 1, e1] using this
  obtain ⟨b1, b2, rfl, -, h2⟩ := h.split off
  have hl2 := LeavesM.len es h
  have := aux size off (es.drop off) (ms.drop off) (vs.drop off) (row.drop off) b2 h2 (fun b o hf => hb b o (FB_app.2 (.inr hf))) (fun j v hv => by
    rw [List.getElem?_drop] at hv
    obtain ⟨hj, rfl⟩ := List.getElem?_eq_some_iff.1 hv
    obtain ⟨h3, h4⟩ := hloc (off + j) (by omega)
    exact ⟨_, _, h3, hc.get _ hj, h4⟩) (by rw [List.length_drop]; omega)
  simpa only [getD_drop, rowLeaves] using this

theorem op_load (hΓ : CtxOk Γ P) (hd : dstOk n.np n.nt o = true) (hR : R n σ g I a w) (hK : Post P n I w Q K) {t : TypeId} {x : Operand} (hop : o.op = .load t x)
    (h : (opStep Γ f o).wp cf σ tr Q) : Goal P o a w K Qm := by
  simp only [opStep, hop] at h
  obtain ⟨ti, -, hty, h⟩ := tyOf_wp hΓ h
  obtain ⟨e, t1, he, h⟩ := rd_wp hR h
  -- the end, once the leaves and the cells are told
  have fin : ∀ (b o' : Nat) (vs : List Value) (ls : List Leaf) (t' : Tr), a.eval x = .pointer (some ⟨b, o', none⟩) → CellsAt w b o' vs → vs.length = ti.lts.length →
      LfsR σ.k g w I ls vs → (put o.dst (mkEnt (isAggK ti.kind) ls)).wp cf σ t' Q → Goal P o a w K Qm := by
    intro b o' vs ls t' hx hc hn hl hp
    cases ha : isAggK ti.kind with
    | true =>
      rw [ha] at hp
      exact end_put hd hR hK (run_load_op hop hx ((run_loadVar hty hc hn).1 ha)) (mkEnt_ok (by simpa using hl)) hp
    | false =>
      rw [ha] at hp
      have hn1 := notAgg_len hty ha
      rw [hn1] at hn
      match vs, hn with
      | [v], _ => exact end_put hd hR hK (run_load_op hop hx ((run_loadVar hty hc (by simpa using hn1.symm)).2 ha v rfl)) (mkEnt_ok1 hl) hp
  split at h
  · rename_i key m r off
    obtain ⟨hs, h1, h2⟩ := he
    obtain ⟨h3, h⟩ := h
    obtain ⟨b, o', hx, haddr⟩ := h2 (Nat.eq_of_beq_eq_true h3)
    have hch := hR.chs key
    split at h
    · rename_i ls e
      rw [e] at hch haddr
      obtain ⟨h4, h⟩ := h
      obtain ⟨bb, oo, c, el, fz, hh, hblk, hsz, -, -, hls⟩ := hch
      rw [hh] at haddr
      simp only [addrIn, Option.some.injEq, Prod.mk.injEq] at haddr
      obtain ⟨rfl, rfl⟩ := haddr
      have h5 : off + ti.lts.length ≤ ls.length := Nat.le_of_ble_eq_true h4
      have hcells : ∀ (vs : List Value) (k : Nat), (∀ j (hj : j < vs.length), c[k + j]? = some vs[j]) → CellsAt w bb k vs := by
        intro vs
        induction vs with
        | nil => intro k _; trivial
        | cons v vs ih =>
          intro k hk
          refine ⟨?_, ih (k + 1) fun j hj => ?_⟩
          · have := hk 0 (by simp)
            unfold cellAt World.cell?
            rw [hblk]; simpa using this
          · have := hk (j + 1) (by simpa using hj)
            rwa [show k + (j + 1) = k + 1 + j from by omega] at this
      refine fin bb (oo + off) (((c.toList.drop oo).take ls.length).drop off |>.take ti.lts.length) _ _ hx (hcells _ _ fun j hj => ?_) ?_ (LfsR.take _ (LfsR.drop _ hls)) h
      · have hj' : j < ti.lts.length ∧ off + j < ls.length ∧ oo + (off + j) < c.size := by
          simp only [List.length_take, List.length_drop, Array.length_toList] at hj
          omega
        simp only [List.getElem_take, List.getElem_drop, Array.getElem_toList]
        rw [show oo + off + j = oo + (off + j) from by omega]
        exact Array.getElem?_eq_getElem hj'.2.2
      · simp only [List.length_take, List.length_drop, Array.length_toList]
        omega
    · rename_i es ms rows e
      rw [e] at hch haddr
      obtain ⟨h4, h5, h⟩ := h
      have h4 : off + ti.lts.length ≤ es.length := Nat.le_of_ble_eq_true h4
      have h5 : r < rows.length := of_decide_eq_true h5
      obtain ⟨bb, cap, vs, bs, hh, h6, h7, h8, h9⟩ := RowOwn.row hch h5
      rw [hh] at haddr
      simp only [addrIn, chEsz, Option.some.injEq, Prod.mk.injEq, Nat.zero_add] at haddr
      obtain ⟨rfl, rfl⟩ := haddr
      have e1 : rows.getD r [] = rows[r] := by simp [h5]
      rw [e1] at h
      have hid := Nat.eq_of_beq_eq_true h3
      rw [← hid] at h
      refine fin bb _ _ _ _ hx ((h6.drop off).take _) ?_ (rowLeaves_ok (by rw [e]; trivial) h8 (fun j hj => ⟨by rw [e, hh]; simp only [addrIn, chEsz, Nat.zero_add], h9 j hj⟩) h6 h7 h4) h
      rw [List.length_take, List.length_drop, (LeavesM.len es h7).1]
      omega
    · rename_i es rows e
      rw [e] at hch haddr
      obtain ⟨h4, h5, h⟩ := h
      have h4 : off + ti.lts.length ≤ es.length := Nat.le_of_ble_eq_true h4
      have h5 : r < rows.length := of_decide_eq_true h5
      simp only [ChR] at hch
      unfold LeafR at hch
      obtain ⟨aa, cap, rows', e', hh, -, -, hrows⟩ := hch
      cases e'
      rcases hrows with rfl | ⟨bb, oo, rfl, hrows⟩
      · simp at h5
      · rw [hh] at haddr
        simp only [addrIn, chEsz, Option.some.injEq, Prod.mk.injEq] at haddr
        obtain ⟨rfl, rfl⟩ := haddr
        obtain ⟨vs, h6, h7⟩ := (hrows r h5).vals
        have e1 : rows.getD r [] = rows[r] := by simp [h5]
        rw [e1] at h
        refine fin bb _ _ _ _ hx ((h7.drop off).take _) ?_ (byPlace_ok (fun lt v d hl => leafOf_ok (old_nil _) (depFoot_nil _) (LeafR.mono (depFoot_nil _) (fun _ _ _ => rfl) _ hl)) _ (h6.drop off) (by rw [List.length_drop]; omega)) h
        rw [List.length_take, List.length_drop, h6.len.1]
        omega
    · rename_i es ms rows r' jj e
      rw [e] at hch haddr
      obtain ⟨h4, h5, h⟩ := h
      have h4 := Nat.eq_of_beq_eq_true h4
      subst h4
      have h5 := Nat.eq_of_beq_eq_true h5
      obtain ⟨-, -, hrl, bb, cap, c, el, fz, B1, B2, hh, -, -, -, -, -, -, -, -, -, hlink⟩ := hch
      have hlink := hlink h5
      rw [hh] at haddr
      simp only [addrIn, chEsz, Option.some.injEq, Prod.mk.injEq, Nat.zero_add] at haddr
      obtain ⟨rfl, rfl⟩ := haddr
      split at h
      · rename_i ls eb
        obtain ⟨h6, h⟩ := h
        have h6 : off + ti.lts.length ≤ ls.length := Nat.le_of_ble_eq_true h6
        have hb := hR.chs (holB key)
        rw [eb] at hb
        obtain ⟨b2, o2, c2, el2, fz2, hh2, hblk, hsz, -, -, hls⟩ := hb
        rw [hlink] at hh2
        cases hh2
        refine fin bb _ ((((c2.toList.drop (r * es.length)).take ls.length).drop off).take ti.lts.length) _ _ hx (CellsAt.of_block hblk _ _ fun j hj => ?_) ?_ (LfsR.take _ (LfsR.drop _ hls)) h
        · simp only [List.length_take, List.length_drop, Array.length_toList] at hj
          simp only [List.getElem_take, List.getElem_drop, Array.getElem_toList]
          rw [show r * es.length + off + j = r * es.length + (off + j) from by omega]
          exact Array.getElem?_eq_getElem (by omega)
        · simp only [List.length_take, List.length_drop, Array.length_toList]
          omega
      · exact h.elim
    · exact h.elim
  · rename_i deps lts row
    obtain ⟨hs, h1, h2⟩ := he
    obtain ⟨h3, h⟩ := h
    obtain ⟨h4, t', h⟩ := depsOk_wp h
    obtain ⟨b, o', hx, hrow⟩ := h2 h4
    obtain ⟨vs, h5, h6⟩ := hrow.vals
    have hle : ti.lts.length ≤ lts.length := Nat.le_of_ble_eq_true h3
    refine fin b o' (vs.take ti.lts.length) _ _ hx (h6.take _) ?_ (byPlace_ok (fun lt v d hl => leafOf_ok h1 (fun _ _ h => .inl h) hl) _ h5 hle) h
    rw [List.length_take, h5.len.1]
    omega
  · exact h.elim
end
end Go.E

namespace Go.E
open Go

section
variable {Γ : Ctx} {P : Program} {w : World} {ρ : Operand → Value} {o : Oper}
theorem run_fieldAddr {t : TypeId} {x : Operand} {i b o' : Nat} {fields : Array Field} {fd : Field} {j : TypeInfo} (hop : o.op = .fieldAddr t x i) (hx : ρ x = .pointer (some ⟨b, o', none⟩))
    (hu : P.underlying t = some (.struct fields)) (hf : fields[i]? = some fd) (hi : P.info? fd.type = some j) (h0 : j.size ≠ 0) :
    (execOp ρ o).run P w = .ok (.value (.pointer (some ⟨b, o' + fd.offset, none⟩))) w := by
  have h1 : (Instr.fieldAt t (ρ x) i).run P w = .ok (.pointer (some ⟨b, o' + fd.offset, none⟩)) w := by
    have h2 : (sizeOf fd.type).run P w = .ok j.size w := by simp [sizeOf, typeInfo, hi, go_sem]
    simp only [Instr.fieldAt, hx, Instr.sureAddr, Sem.run_bind, run_underlying hu, Result.andThen_ok, hf, pure_bind, fieldPlace, h2, h0, if_false, addr_add]
    rfl
  simp only [execOp, hop]
  rw [Sem.run_bind, h1]
  rfl
theorem run_field {t : TypeId} {x : Operand} {i : Nat} {fields : Array Field} {fd : Field} {cs : Array Value} {v : Value} (hop : o.op = .field t x i) (hx : ρ x = .agg cs)
    (hu : P.underlying t = some (.struct fields)) (hf : fields[i]? = some fd) (hp : (part fd.type cs fd.offset).run P w = .ok v w) :
    (execOp ρ o).run P w = .ok (.value v) w := by
  have h1 : (Instr.field t (ρ x) i).run P w = .ok v w := by
    simp only [Instr.field, hx, asAgg, Sem.run_bind, run_underlying hu, Result.andThen_ok, hf, pure_bind]
    exact hp
  simp only [execOp, hop]
  rw [Sem.run_bind, h1]
  rfl
theorem run_indexAddr {t e : TypeId} {x ix : Operand} {b o' len cap : Nat} {k : IntKind} {i : Int} {sz : Nat} (hop : o.op = .indexAddr t x ix)
    (hx : ρ x = .slice (some ⟨b, o', none⟩) len cap) (hi : ρ ix = .int k i) (hu : P.underlying t = some (.slice e)) (hs : (sizeOf e).run P w = .ok sz w) (h : 0 ≤ i ∧ i < len) :
    (execOp ρ o).run P w = .ok (.value (.pointer (some ⟨b, o' + i.toNat * sz, none⟩))) w := by
  have h1 : (Instr.indexAt t (ρ x) (ρ ix)).run P w = .ok (.pointer (some ⟨b, o' + i.toNat * sz, none⟩)) w := by
    simp only [Instr.indexAt, hx, hi, asIntOf, Sem.run_bind, run_underlying hu, Result.andThen_ok, pure_bind, h, and_self, if_true, hs, addr_add, Sem.run_pure]
  simp only [execOp, hop]
  rw [Sem.run_bind, h1]
  rfl
theorem run_index {t : TypeId} {x ix : Operand} {k : IntKind} {i : Int} {s : ByteArray} (hop : o.op = .index t x ix)
    (hx : ρ x = .string s) (hi : ρ ix = .int k i) (hu : P.underlying t = some .string) (h : 0 ≤ i ∧ i < s.size) :
    (execOp ρ o).run P w = .ok (.value (.int .u8 (s.data.toList.getD i.toNat 0).toNat)) w := by
  have hlt : i.toNat < s.size := by omega
  have hs : s[i.toNat]? = some (s.data.toList.getD i.toNat 0) := by
    rw [getElem?_pos s i.toNat hlt]
    have : i.toNat < s.data.toList.length := by simpa using hlt
    rw [List.getD, List.getElem?_eq_getElem this]
    rfl
  have h1 : (Instr.index t (ρ x) (ρ ix)).run P w = .ok (.int .u8 (s.data.toList.getD i.toNat 0).toNat) w := by
    simp only [Instr.index, hx, hi, asIntOf, Sem.run_bind, run_underlying hu, Result.andThen_ok, pure_bind, h.1, if_true, hs, Sem.run_pure]
  simp only [execOp, hop]
  rw [Sem.run_bind, h1]
  rfl
theorem run_makeFunc {fn : FuncId} {cs : Array Operand} (hop : o.op = .makeFunc (.func fn) #[] cs) :
    (execOp ρ o).run P w = .ok (.value (.func (.func fn) #[] (cs.map ρ))) w := by
  simp only [execOp, hop]
  rw [Sem.run_bind]
  simp [Instr.makeFunc]
theorem run_builtin {b : Builtin} {c : Call} {v : Value} (hop : o.op = .call c) (hc : c.callee = .builtin b)
    (h : (builtin b c.argTypes o.type (c.args.map fun | .const _ => true | _ => false) (c.args.map ρ)).run P w = .ok (.value v) w) :
    (execOp ρ o).run P w = .ok (.value v) w := by
  simp only [execOp, hop]
  rw [Sem.run_bind]
  simp only [resolve, hc]
  exact h
end

section
variable {Γ : Ctx} {P : Program} {cf : FuncId → List Arg → R3 Ret}
variable {n : Fr} {σ : S} {g : Gh} {I : Foot} {a : Act} {w : World}
variable {o : Oper} {f : FuncId} {tr : Tr} {Q : S → Tr → Prop} {K : Act → World → Prop} {Qm : Exit → Act → World → Prop}

def EntsR (κ : Key → KE) (g : Gh) (w : World) (I : Foot) : List Ent → List Value → Prop
  | [], [] => True
  | l :: ls, v :: vs => EntR κ g w I l v ∧ EntsR κ g w I ls vs
  | _, _ => False
theorem rdAll_wp (hR : R n σ g I a w) : ∀ {xs : List Operand} {k : List Ent → Prog} {tr : Tr}, (rdAll xs k).wp cf σ tr Q →
    ∃ es tr', EntsR σ.k g w I es (xs.map a.eval) ∧ (k es).wp cf σ tr' Q
  | [], k, tr, h => ⟨[], tr, trivial, h⟩
  | x :: xs, k, tr, h => by
    obtain ⟨e, t1, he, h⟩ := rd_wp hR h
    obtain ⟨es, t2, hes, h⟩ := rdAll_wp hR (xs := xs) h
    exact ⟨e :: es, t2, ⟨he, hes⟩, h⟩

theorem kind_struct {t : TypeId} {ti : TI} {fs : List (Nat × TypeId)} (h : TyOk Γ P t ti) (hk : ti.kind = .struct fs) :
    ∃ fields, P.underlying t = some (.struct fields) ∧ ∀ (i off : Nat) (ft : TypeId), fs[i]? = some (off, ft) → ∃ fd j, fields[i]? = some fd ∧ fd.offset = off ∧ fd.type = ft ∧ P.info? ft = some j ∧ j.size ≠ 0 := by
  obtain ⟨d, h1, h2⟩ := h.und
  rw [hk] at h2
  obtain ⟨fields, rfl, rfl, h3⟩ := h2
  refine ⟨fields, h1, fun i off ft hi => ?_⟩
  simp only [List.getElem?_map, Option.map_eq_some_iff, Prod.mk.injEq] at hi
  obtain ⟨fd, hfd, rfl, rfl⟩ := hi
  obtain ⟨j, hj, hj0⟩ := h3 fd (List.mem_of_getElem? hfd)
  exact ⟨fd, j, by simpa using hfd, rfl, rfl, hj, hj0⟩
theorem kind_slice {t e : TypeId} {ti : TI} (h : TyOk Γ P t ti) (hk : ti.kind = .slice e) :
    P.underlying t = some (.slice e) ∧ ∃ te, Γ.ty e = some te ∧ ti.lts = [.sl te.lts] ∧ te.lts ≠ [] := by
  obtain ⟨d, h1, h2⟩ := h.und
  rw [hk] at h2
  obtain ⟨rfl, h3⟩ := h2
  exact ⟨h1, h3⟩
theorem kind_str {t : TypeId} {ti : TI} (h : TyOk Γ P t ti) (hk : ti.kind = .sc .str) : P.underlying t = some .string := by
  obtain ⟨d, h1, h2⟩ := h.und
  rw [hk] at h2
  rw [h1, h2.1]
theorem isStrK_eq {k : TK} (h : isStrK k = true) : k = .sc .str := by
  unfold isStrK at h
  split at h
  · rfl
  · cases h
theorem isSliceK_eq {k : TK} (h : isSliceK k = true) : ∃ e, k = .slice e := by
  unfold isSliceK at h
  split at h
  · exact ⟨_, rfl⟩
  · cases h

theorem op_fieldAddr (hΓ : CtxOk Γ P) (hd : dstOk n.np n.nt o = true) (hR : R n σ g I a w) (hK : Post P n I w Q K) {t : TypeId} {x : Operand} {i : Nat} (hop : o.op = .fieldAddr t x i)
    (h : (opStep Γ f o).wp cf σ tr Q) : Goal P o a w K Qm := by
  simp only [opStep, hop] at h
  obtain ⟨ti, -, hty, h⟩ := tyOf_wp hΓ h
  obtain ⟨e, t1, he, h⟩ := rd_wp hR h
  split at h
  · rename_i fs hk
    obtain ⟨⟨off, ft⟩, hfs, h⟩ := ofOpt_wp h
    obtain ⟨fields, hu, hfd⟩ := kind_struct hty hk
    obtain ⟨fd, j, h1, rfl, rfl, h2, h3⟩ := hfd i off ft hfs
    split at h
    · rename_i k m r oo _
      obtain ⟨hs, h4, h5⟩ := he
      obtain ⟨h6, h⟩ := h
      obtain ⟨b, o', hx, ha⟩ := h5 (Nat.eq_of_beq_eq_true h6)
      refine end_put hd hR hK (run_fieldAddr hop hx hu h1 h2 h3) (e := .ptr k m r (oo + fd.offset)) ⟨⟨fun _ h => (nomatch h), fun _ h => (nomatch h)⟩, h4, fun _ => ⟨b, o' + fd.offset, rfl, ?_⟩⟩ h
      unfold addrIn at ha ⊢
      split at ha
      · cases ha; simp [Nat.add_assoc]
      · cases ha; simp [Nat.add_assoc]
      · cases ha
    · rename_i deps lts row _
      obtain ⟨hs, h4, h5⟩ := he
      obtain ⟨h8, h⟩ := h
      obtain ⟨h6, t2, h⟩ := depsOk_wp h
      obtain ⟨b, o', hx, ha⟩ := h5 h6
      refine end_put hd hR hK (run_fieldAddr hop hx hu h1 h2 h3) (e := .rp deps (lts.drop fd.offset) (row.drop fd.offset)) ⟨⟨fun _ h => (nomatch h), fun _ h => (nomatch h)⟩, h4, fun _ => ⟨b, o' + fd.offset, rfl, ?_⟩⟩ h
      have drop : ∀ (k : Nat) {es : List LT} {o : Nat} {row : List T}, k ≤ es.length → RowR w (depFoot σ.k g I deps) (depFoot σ.k g I deps) es b o row → RowR w (depFoot σ.k g I deps) (depFoot σ.k g I deps) (es.drop k) b (o + k) (row.drop k) := by
        intro k
        induction k with
        | zero => intro es o row _ h; exact h
        | succ k ih =>
          intro es o row hk h
          cases es with
          | nil => simp at hk
          | cons e es =>
            unfold RowR at h
            obtain ⟨d, rest, v, rfl, -, -, -, h⟩ := h
            have := ih (by simpa using hk) h
            rwa [show o + 1 + k = o + (k + 1) from by omega] at this
      exact drop _ (Nat.le_of_ble_eq_true h8) ha
    · exact h.elim
  · exact h.elim

theorem op_field (hΓ : CtxOk Γ P) (hd : dstOk n.np n.nt o = true) (hR : R n σ g I a w) (hK : Post P n I w Q K) {t : TypeId} {x : Operand} {i : Nat} (hop : o.op = .field t x i)
    (h : (opStep Γ f o).wp cf σ tr Q) : Goal P o a w K Qm := by
  simp only [opStep, hop] at h
  obtain ⟨ti, -, hty, h⟩ := tyOf_wp hΓ h
  obtain ⟨e, t1, he, h⟩ := rd_wp hR h
  split at h
  · rename_i fs ls hk
    obtain ⟨⟨off, ft⟩, hfs, h⟩ := ofOpt_wp h
    obtain ⟨tf, -, htf, h⟩ := tyOf_wp hΓ h
    obtain ⟨fields, hu, hfd⟩ := kind_struct hty hk
    obtain ⟨fd, j, h1, rfl, rfl, h2, h3⟩ := hfd i off ft hfs
    obtain ⟨cs, hx, hls⟩ := he
    obtain ⟨h4, h⟩ := h
    have h4 : fd.offset + tf.lts.length ≤ ls.length := Nat.le_of_ble_eq_true h4
    have hlen := hls.len
    cases ha : isAggK tf.kind with
    | true =>
      rw [ha] at h
      refine end_put hd hR hK (run_field hop hx hu h1 (v := .agg (cs.extract fd.offset (fd.offset + tf.lts.length))) ?_) (mkEnt_ok ?_) h
      · simp [part, run_isAgg htf, ha, run_sizeOf htf]
      · have := (hls.drop fd.offset).take tf.lts.length
        simpa [Array.toList_extract, List.extract_eq_take_drop, Nat.add_sub_cancel_left] using this
    | false =>
      rw [ha] at h
      have h1' := notAgg_len htf ha
      have hlt : fd.offset < cs.size := by simp at hlen; omega
      refine end_put hd hR hK (run_field hop hx hu h1 (v := cs[fd.offset]) ?_) (mkEnt_ok1 ?_) h
      · simp [part, run_isAgg htf, ha, hlt]
      · have := (hls.drop fd.offset).take tf.lts.length
        rw [h1'] at this ⊢
        have e : (List.drop fd.offset cs.toList).take 1 = [cs[fd.offset]] := by
          rw [List.drop_eq_getElem_cons (by simpa using hlt)]
          rfl
        rwa [e] at this
  · exact h.elim

theorem op_indexAddr (hΓ : CtxOk Γ P) (hd : dstOk n.np n.nt o = true) (hR : R n σ g I a w) (hK : Post P n I w Q K) {t : TypeId} {x i : Operand} (hop : o.op = .indexAddr t x i)
    (h : (opStep Γ f o).wp cf σ tr Q) : Goal P o a w K Qm := by
  simp only [opStep, hop] at h
  obtain ⟨ti, -, hty, h⟩ := tyOf_wp hΓ h
  obtain ⟨e, t1, he, h⟩ := rd_wp hR h
  obtain ⟨ei, t2, hei, h⟩ := rd_wp hR h
  obtain ⟨s, d, rfl, hv, h⟩ := scal_wp hei h
  split at h
  · rename_i _ el tes l hk htes _ _
    obtain ⟨ix, hix, rfl, -⟩ := hv
    obtain ⟨hu, te, hte, hl, -⟩ := kind_slice hty hk
    have hsz := run_sizeOf (w := w) (hΓ.ty _ _ hte)
    rw [htes] at hl
    simp only [List.cons.injEq, LT.sl.injEq, and_true] at hl
    subst hl
    -- the end
    have fin : ∀ (es : List LT) (rows : List (List T)) (S : Foot), LeafR w S (.sl es) (a.eval x) (.l rows) → es.length = te.lts.length → 0 ≤ ix ∧ ix < rows.length →
        ∃ b oo len cap, a.eval x = .slice (some ⟨b, oo, none⟩) len cap ∧ (execOp a.eval o).run P w = .ok (.value (.pointer (some ⟨b, oo + ix.toNat * es.length, none⟩))) w ∧
          ∀ (hi : ix.toNat < rows.length), RowR w S S es b (oo + ix.toNat * es.length) rows[ix.toNat] := by
      intro es rows S hleaf hlen hb
      unfold LeafR at hleaf
      obtain ⟨aa, cap, rows', e1, hv, -, -, hrows⟩ := hleaf
      cases e1
      rcases hrows with rfl | ⟨b, oo, rfl, hrows⟩
      · simp at hb; omega
      · refine ⟨b, oo, _, _, hv, ?_, fun hi => hrows _ hi⟩
        rw [hlen]
        exact run_indexAddr hop hv hix hu hsz hb
    split at h
    · rename_i key m hst
      obtain ⟨hs, hl⟩ := he
      simp only [hst] at hl
      obtain ⟨-, h1, h2⟩ := hl
      obtain ⟨h3, h⟩ := h
      have hid := Nat.eq_of_beq_eq_true h3
      have hval := h2 hid
      have hch := hR.chs key
      split at h
      · rename_i es ms rows e
        rw [e] at hch
        obtain ⟨h4, h5, h⟩ := h
        obtain ⟨b, oo, len, cap, hv, hrun, -⟩ := fin es rows (fun _ _ => True) (by rw [hval]; exact LeafR.mono (fun _ _ _ => trivial) (fun _ _ _ => rfl) _ (RowOwn.leaf (S := fun _ _ => True) hch (fun _ _ _ => trivial) (fun _ _ _ => trivial)))
          (Nat.eq_of_beq_eq_true h4) (of_decide_eq_true h5)
        refine end_put hd hR hK hrun (e := .ptr key m ix.toNat 0) ⟨⟨fun _ h => (nomatch h), fun _ h => (nomatch h)⟩, h1, fun _ => ⟨b, _, rfl, ?_⟩⟩ h
        rw [← hval, hv, e]
        simp [addrIn, chEsz]
      · rename_i es rows e
        rw [e] at hch
        obtain ⟨h4, h5, h⟩ := h
        obtain ⟨b, oo, len, cap, hv, hrun, -⟩ := fin es rows I (by rw [hval]; exact hch) (Nat.eq_of_beq_eq_true h4) (of_decide_eq_true h5)
        refine end_put hd hR hK hrun (e := .ptr key m ix.toNat 0) ⟨⟨fun _ h => (nomatch h), fun _ h => (nomatch h)⟩, h1, fun _ => ⟨b, _, rfl, ?_⟩⟩ h
        rw [← hval, hv, e]
        simp [addrIn, chEsz]
      · exact h.elim
    · obtain ⟨es, rows, deps, t', h, h1, h2, h3⟩ := viewSl_wp hR he h
      obtain ⟨h4, h5, h⟩ := h
      have hb := of_decide_eq_true h5
      simp only [T.int] at hb
      obtain ⟨b, oo, len, cap, hv, hrun, hrow⟩ := fin es rows _ h1 (Nat.eq_of_beq_eq_true h4) hb
      have hlt : ix.toNat < rows.length := by omega
      refine end_put hd hR hK hrun (e := .rp deps es (rows.getD ix.toNat [])) ⟨⟨fun _ h => (nomatch h), fun _ h => (nomatch h)⟩, h3, fun _ => ⟨b, _, rfl, ?_⟩⟩ h
      have e1 : rows.getD ix.toNat [] = rows[ix.toNat] := by simp [hlt]
      rw [e1]
      exact hrow hlt
  · exact h.elim

theorem op_index (hΓ : CtxOk Γ P) (hd : dstOk n.np n.nt o = true) (hR : R n σ g I a w) (hK : Post P n I w Q K) {t : TypeId} {x i : Operand} (hop : o.op = .index t x i)
    (h : (opStep Γ f o).wp cf σ tr Q) : Goal P o a w K Qm := by
  simp only [opStep, hop] at h
  obtain ⟨ti, -, hty, h⟩ := tyOf_wp hΓ h
  obtain ⟨e, t1, he, h⟩ := rd_wp hR h
  obtain ⟨ei, t2, hei, h⟩ := rd_wp hR h
  obtain ⟨s, d, rfl, hv, h⟩ := scal_wp he h
  obtain ⟨s', d', rfl, hv', h⟩ := scal_wp hei h
  split at h
  · have hk : ti.kind = .sc .str := by assumption
    obtain ⟨str, hs, rfl, -⟩ := hv
    obtain ⟨ix, hix, rfl, -⟩ := hv'
    obtain ⟨h1, h⟩ := h
    have h1 := of_decide_eq_true h1
    simp only [T.int, T.str] at h1
    refine end_sc hd hR hK (s := .int .u8) (run_index hop hs hix (kind_str hty hk) h1) ⟨_, rfl, rfl, ?_⟩ h
    have := UInt8.toNat_lt (str.data.toList.getD ix.toNat 0)
    simp only [IntKind.min, IntKind.max, IntKind.bits, IntKind.signed]
    constructor
    · simp
    · simp only [Bool.false_eq_true, if_false]
      omega
  · exact h.elim

theorem op_makeFunc (hd : dstOk n.np n.nt o = true) (hR : R n σ g I a w) (hK : Post P n I w Q K) {fn : FuncId} {fs cs : Array Operand} (hop : o.op = .makeFunc (.func fn) fs cs)
    (h : (opStep Γ f o).wp cf σ tr Q) : Goal P o a w K Qm := by
  simp only [opStep, hop] at h
  cases he : fs.isEmpty with
  | false => simp only [he, cond_false] at h; exact h.elim
  | true =>
    simp only [he, cond_true] at h
    have hfs : fs = #[] := by simpa using he
    subst hfs
    obtain ⟨es, t', hes, h⟩ := rdAll_wp hR h
    obtain ⟨h1, h⟩ := h
    refine end_put hd hR hK (run_makeFunc hop) (e := .fn fn es) ⟨_, rfl, ?_⟩ h
    have aux : ∀ (es : List Ent) (vs : List Value), EntsR σ.k g w I es vs → es.all flatEnt = true → Ents0R σ.k g w I es vs := by
      intro es
      induction es with
      | nil => intro vs h _; cases vs with | nil => trivial | cons => exact h.elim
      | cons e es ih =>
        intro vs h hf
        cases vs with
        | nil => exact h.elim
        | cons v vs =>
          simp only [List.all_cons, Bool.and_eq_true] at hf
          refine ⟨?_, ih vs h.2 hf.2⟩
          have h1 := h.1
          cases e <;> first | exact h1 | (simp [flatEnt] at hf)
    simpa using aux es _ hes h1
end
end Go.E

namespace Go.E
open Go

section
variable {Γ : Ctx} {P : Program} {w : World} {ρ : Operand → Value} {o : Oper}
theorem run_len_str {t : TypeId} {ts : Array TypeId} {ty : TypeId} {s : ByteArray} (ht : ts[0]? = some t) (hu : P.underlying t = some .string) :
    (Builtin.len_ ts ty #[.string s]).run P w = .ok (.int .i64 s.size) w := by
  simp [Builtin.len_, ht, run_underlying hu, goInt]
theorem run_len_slice {t e : TypeId} {ts : Array TypeId} {ty : TypeId} {a : Option Addr} {len cap : Nat} (ht : ts[0]? = some t) (hu : P.underlying t = some (.slice e)) :
    (Builtin.len_ ts ty #[.slice a len cap]).run P w = .ok (.int .i64 len) w := by
  simp [Builtin.len_, ht, run_underlying hu, goInt]
theorem run_builtin_len {c : Call} {v : Value} (hop : o.op = .call c) (hc : c.callee = .builtin .len)
    (h : (Builtin.len_ c.argTypes o.type (c.args.map ρ)).run P w = .ok v w) :
    (execOp ρ o).run P w = .ok (.value v) w := by
  refine run_builtin hop hc ?_
  simp only [builtin]
  rw [Sem.run_bind, h]
  rfl
theorem run_bound {v : Value} {k : IntKind} {i : Int} {y : Nat} {code : BoundsCode} (hv : v = .int k i) (h : 0 ≤ i ∧ i ≤ y) :
    (Instr.sliceBound v y code).run P w = .ok i.toNat w := by
  subst hv
  simp [Instr.sliceBound, asIntOf, h]
def OptIs (o : Option Value) (d x : Int) : Prop := (o = none ∧ x = d) ∨ ∃ k, o = some (.int k x)
theorem run_bounds {sl : Bool} {len cap : Nat} {lo hi : Option Value} {l h : Int} (hlo : OptIs lo 0 l) (hhi : OptIs hi len h) (h1 : 0 ≤ h ∧ h ≤ len) (h2 : 0 ≤ l ∧ l ≤ h) (hc : len ≤ cap) :
    (Instr.sliceBounds sl len cap lo hi none).run P w = .ok (l.toNat, h.toNat, cap) w := by
  have h3 : 0 ≤ h ∧ h ≤ (cap : Int) := ⟨h1.1, by omega⟩
  have h4 : 0 ≤ l ∧ l ≤ (h.toNat : Int) := ⟨h2.1, by omega⟩
  rcases hlo with ⟨rfl, rfl⟩ | ⟨k, rfl⟩ <;> rcases hhi with ⟨rfl, rfl⟩ | ⟨k', rfl⟩
  · simp [Instr.sliceBounds]
  · simp [Instr.sliceBounds, run_bound rfl h3]
  · simp only [Instr.sliceBounds, pure_bind, Sem.run_bind]
    simp only [Sem.run_pure, Result.andThen_ok]
    have h5 : 0 ≤ l ∧ l ≤ (len : Int) := by omega
    simp [run_bound rfl h5]
  · simp only [Instr.sliceBounds, pure_bind, Sem.run_bind]
    simp [run_bound rfl h3, run_bound rfl h4]
theorem run_slice_str {t : TypeId} {x : Operand} {lo hi : Option Operand} {s : ByteArray} {l h : Int} (hop : o.op = .slice t x lo hi none) (hx : ρ x = .string s)
    (hu : P.underlying t = some .string) (hlo : OptIs (lo.map ρ) 0 l) (hhi : OptIs (hi.map ρ) s.size h) (h1 : 0 ≤ h ∧ h ≤ s.size) (h2 : 0 ≤ l ∧ l ≤ h) :
    (execOp ρ o).run P w = .ok (.value (.string (s.extract l.toNat h.toNat))) w := by
  have h3 : (Instr.sliceAt t (ρ x) (lo.map ρ) (hi.map ρ) none).run P w = .ok (.string (s.extract l.toNat h.toNat)) w := by
    simp only [Instr.sliceAt, Sem.run_bind, run_underlying hu, Result.andThen_ok, Instr.slice, hx]
    simp [run_bounds (P := P) (w := w) (sl := false) hlo hhi h1 h2 (Nat.le_refl _)]
  simp only [execOp, hop]
  rw [Sem.run_bind, show (none : Option Operand).map ρ = none from rfl, h3]
  rfl
theorem run_slice_sl {t e : TypeId} {x : Operand} {lo hi : Option Operand} {aa : Option Addr} {len cap sz : Nat} {l h : Int} (hop : o.op = .slice t x lo hi none) (hx : ρ x = .slice aa len cap)
    (hu : P.underlying t = some (.slice e)) (hs : (sizeOf e).run P w = .ok sz w) (hlo : OptIs (lo.map ρ) 0 l) (hhi : OptIs (hi.map ρ) len h) (h1 : 0 ≤ h ∧ h ≤ len) (h2 : 0 ≤ l ∧ l ≤ h) (hc : len ≤ cap) :
    (execOp ρ o).run P w = .ok (.value (.slice (if cap = l.toNat then aa else aa.map (·.add (l.toNat * sz))) (h.toNat - l.toNat) (cap - l.toNat))) w := by
  have h3 : (Instr.sliceAt t (ρ x) (lo.map ρ) (hi.map ρ) none).run P w = .ok (.slice (if cap = l.toNat then aa else aa.map (·.add (l.toNat * sz))) (h.toNat - l.toNat) (cap - l.toNat)) w := by
    simp only [Instr.sliceAt, Sem.run_bind, run_underlying hu, Result.andThen_ok, Instr.slice, hx]
    simp [run_bounds (P := P) (w := w) (sl := true) hlo hhi h1 h2 hc, hs]
  simp only [execOp, hop]
  rw [Sem.run_bind, show (none : Option Operand).map ρ = none from rfl, h3]
  rfl
end

section
variable {Γ : Ctx} {P : Program} {cf : FuncId → List Arg → R3 Ret}
variable {n : Fr} {σ : S} {g : Gh} {I : Foot} {a : Act} {w : World}
variable {o : Oper} {f : FuncId} {tr : Tr} {Q : S → Tr → Prop} {K : Act → World → Prop} {Qm : Exit → Act → World → Prop}

theorem entsR_one {κ : Key → KE} {e : Ent} {vs : List Value} (h : EntsR κ g w I [e] vs) : ∃ v, vs = [v] ∧ EntR κ g w I e v := by
  match vs, h with
  | [v], h => exact ⟨v, rfl, h.1⟩
theorem leafSl {S : Foot} {es : List LT} {v : Value} {rows : List (List T)} (h : LeafR w S (.sl es) v (.l rows)) :
    ∃ aa cap, v = .slice aa rows.length cap ∧ rows.length ≤ cap ∧ rows.length ≤ maxCells ∧
      (rows = [] ∨ ∃ b o, aa = some ⟨b, o, none⟩ ∧ ∀ i (h : i < rows.length), RowR w S S es b (o + i * es.length) rows[i]) := by
  unfold LeafR at h
  obtain ⟨aa, cap, rows', e1, hv, h1, h2, h3⟩ := h
  cases e1
  exact ⟨aa, cap, hv, h1, h2, h3⟩
theorem leafSl_mk {S : Foot} {es : List LT} {aa : Option Addr} {cap : Nat} {rows : List (List T)} (h1 : rows.length ≤ cap) (h2 : rows.length ≤ maxCells)
    (h3 : rows = [] ∨ ∃ b o, aa = some ⟨b, o, none⟩ ∧ ∀ i (h : i < rows.length), RowR w S S es b (o + i * es.length) rows[i]) : LeafR w S (.sl es) (.slice aa rows.length cap) (.l rows) := by
  unfold LeafR
  exact ⟨aa, cap, rows, rfl, rfl, h1, h2, h3⟩

theorem end_setS {e : Ent} {v : Value} {d0 : Nat} (hdst : o.dst = some d0) (hd : dstOk n.np n.nt o = true) (hR : R n σ g I a w) (hK : Post P n I w Q K)
    (hrun : (execOp a.eval o).run P w = .ok (.value v) w) (he : EntR σ.k g w I e v) (h : (Prog.setS d0 e .ret).wp cf σ tr Q) : Goal P o a w K Qm :=
  end_put hd hR hK hrun he (by unfold put; rw [hdst]; exact h)
theorem op_len (hΓ : CtxOk Γ P) (hd : dstOk n.np n.nt o = true) (hR : R n σ g I a w) (hK : Post P n I w Q K) {c : Call} (hop : o.op = .call c) (hc : c.callee = .builtin .len)
    (h : (opStep Γ f o).wp cf σ tr Q) : Goal P o a w K Qm := by
  simp only [opStep, hop, hc] at h
  obtain ⟨t, ht, h⟩ := ofOpt_wp h
  obtain ⟨ti, -, hty, h⟩ := tyOf_wp hΓ h
  obtain ⟨es, t1, hes, h⟩ := rdAll_wp hR h
  split at h
  · rename_i l _ _
    obtain ⟨v, hv, hl⟩ := entsR_one hes
    have hargs : c.args.map a.eval = #[v] := by
      apply Array.toList_inj.1; simpa using hv
    split at h
    · rename_i hst hlt
      obtain ⟨hk, h⟩ := h
      obtain ⟨hs, hl⟩ := hl
      simp only [hst] at hl
      obtain ⟨s, e1, hl⟩ := hl
      rw [hlt] at e1
      cases e1
      obtain ⟨s, rfl, hd', hsz⟩ := hl
      rw [hd'] at h
      refine end_sc hd hR hK (s := .int .i64) (run_builtin_len hop hc (by rw [hargs]; exact run_len_str ht (kind_str hty (isStrK_eq hk)))) ⟨_, rfl, rfl, ?_⟩ h
      have e1 : IntKind.i64.min = -9223372036854775808 := by decide
      rw [e1, i64max]
      simp only [T.str]
      omega
    · obtain ⟨hk, h⟩ := h
      obtain ⟨es, rows, deps, t', h, hleaf, -, -⟩ := viewSl_wp hR hl h
      obtain ⟨aa, cap, rfl, h1, h2, -⟩ := leafSl hleaf
      obtain ⟨e, hk⟩ := isSliceK_eq hk
      obtain ⟨hu, -⟩ := kind_slice hty hk
      have h := h (decide_eq_true h2)
      refine end_sc hd hR hK (s := .int .i64) (run_builtin_len hop hc (by rw [hargs]; exact run_len_slice ht hu)) ⟨_, rfl, rfl, ?_⟩ h
      have e1 : IntKind.i64.min = -9223372036854775808 := by decide
      unfold maxCells at h2
      rw [e1, i64max]
      omega
  · exact h.elim

/-- a bound of a slice expression -/
theorem bound_ok (hR : R n σ g I a w) {e : Ent} {v : Value} {k : Int → Prog} (he : EntR σ.k g w I e v)
    (h : (scal e fun s t => match s with | .int _ => k t.int | _ => .fail).wp cf σ tr Q) : ∃ kd x, v = .int kd x ∧ (k x).wp cf σ tr Q := by
  obtain ⟨s, d, rfl, hv, h⟩ := scal_wp he h
  split at h
  · obtain ⟨x, hx, rfl, -⟩ := hv
    exact ⟨_, x, hx, h⟩
  · exact h.elim

theorem bounds_wp (hR : R n σ g I a w) (lo hi : Option Operand) {elo ehi : Option Ent} {nn : Nat} {k : Int → Int → Prog}
    (hlo : ∀ x, lo = some x → ∃ e, elo = some e ∧ EntR σ.k g w I e (a.eval x)) (hlo' : lo = none → elo = none)
    (hhi : ∀ x, hi = some x → ∃ e, ehi = some e ∧ EntR σ.k g w I e (a.eval x)) (hhi' : hi = none → ehi = none)
    (h : (sliceBound ehi nn fun h => sliceBound elo 0 fun a => k h a).wp cf σ tr Q) :
    ∃ l hh, OptIs (lo.map a.eval) 0 l ∧ OptIs (hi.map a.eval) nn hh ∧ (k hh l).wp cf σ tr Q := by
  have one : ∀ (x : Option Operand) (e : Option Ent) (d : Int) (k : Int → Prog), (∀ y, x = some y → ∃ e', e = some e' ∧ EntR σ.k g w I e' (a.eval y)) → (x = none → e = none) →
      (sliceBound e d k).wp cf σ tr Q → ∃ v, OptIs (x.map a.eval) d v ∧ (k v).wp cf σ tr Q := by
    intro x e d k h1 h2 h
    cases x with
    | none => rw [h2 rfl] at h; exact ⟨d, .inl ⟨rfl, rfl⟩, h⟩
    | some y =>
      obtain ⟨e', rfl, he⟩ := h1 y rfl
      obtain ⟨kd, v, hv, h⟩ := bound_ok hR he h
      exact ⟨v, .inr ⟨kd, by simp [hv]⟩, h⟩
  obtain ⟨hh, h1, h⟩ := one hi ehi nn _ hhi hhi' h
  obtain ⟨l, h2, h⟩ := one lo elo 0 _ hlo hlo' h
  exact ⟨l, hh, h2, h1, h⟩

/-- a part of a row that is read -/
theorem leaf_part {S : Foot} {es : List LT} {aa : Option Addr} {cap : Nat} {rows : List (List T)} {l h : Nat} (hl : LeafR w S (.sl es) (.slice aa rows.length cap) (.l rows)) (h1 : h ≤ rows.length) (h2 : l ≤ h) :
    LeafR w S (.sl es) (.slice (if cap = l then aa else aa.map (·.add (l * es.length))) (h - l) (cap - l)) (.l ((rows.take h).drop l)) := by
  obtain ⟨aa', cap', e1, h3, h4, h5⟩ := leafSl hl
  cases e1
  have hlen : ((rows.take h).drop l).length = h - l := by simp; omega
  rw [← hlen]
  refine leafSl_mk (by omega) (by omega) ?_
  by_cases hz : h = l
  · left; apply List.length_eq_zero_iff.1; omega
  · rcases h5 with rfl | ⟨b, o, rfl, h5⟩
    · simp at h1; omega
    · right
      have hne : cap ≠ l := by omega
      refine ⟨b, o + l * es.length, by simp [hne, addr_add], fun i hi => ?_⟩
      have hi' : i + l < rows.length := by omega
      have := h5 (l + i) (by omega)
      have e1 : (List.drop l (List.take h rows))[i] = rows[l + i] := by
        simp [List.getElem_drop, List.getElem_take]
      rw [e1, Nat.add_assoc, ← Nat.add_mul]
      exact this

theorem op_slice_read (hΓ : CtxOk Γ P) (hd : dstOk n.np n.nt o = true) (hR : R n σ g I a w) (hK : Post P n I w Q K) {t : TypeId} {ti : TI} {x : Operand} {lo hi : Option Operand} {d0 : Nat} (hop : o.op = .slice t x lo hi none)
    (hdst : o.dst = some d0) (hty : TyOk Γ P t ti) {e : Ent} (he : EntR σ.k g w I e (a.eval x)) {elo ehi : Option Ent}
    (hlo : ∀ x, lo = some x → ∃ e, elo = some e ∧ EntR σ.k g w I e (a.eval x)) (hlo' : lo = none → elo = none)
    (hhi : ∀ x, hi = some x → ∃ e, ehi = some e ∧ EntR σ.k g w I e (a.eval x)) (hhi' : hi = none → ehi = none)
    (h : (sliceStep ti 0 d0 e elo ehi).wp cf σ tr Q) : Goal P o a w K Qm := by
  unfold sliceStep at h
  obtain ⟨l, rfl, hl, h⟩ := one1_wp he h
  simp only at h
  split at h
  · rename_i hst hlt
    obtain ⟨hk, h⟩ := h
    obtain ⟨hs, hl⟩ := hl
    simp only [hst] at hl
    obtain ⟨s, e1, hl⟩ := hl
    rw [hlt] at e1
    cases e1
    obtain ⟨s, hx, hd', hsz⟩ := hl
    rw [hd'] at h
    obtain ⟨lv, hv, h1, h2, h3, h4, h⟩ := bounds_wp hR lo hi hlo hlo' hhi hhi' h
    have h3 := of_decide_eq_true h3
    have h4 := of_decide_eq_true h4
    have hrun := run_slice_str (w := w) hop hx (kind_str hty (isStrK_eq hk)) h1 h2 h3 h4
    rw [← hdst] at h
    refine end_sc hd hR hK (s := .str) hrun ⟨_, rfl, rfl, ?_⟩ h
    simp only [ByteArray.size_extract]
    omega
  · obtain ⟨es, rows, deps, t', h, hleaf, h1, h2⟩ := viewSl_wp hR hl h
    obtain ⟨hk, h⟩ := h
    split at hk
    · rename_i tes htes
      simp only [Bool.and_eq_true] at hk
      obtain ⟨hk, hlen⟩ := hk
      have hlen := Nat.eq_of_beq_eq_true hlen
      obtain ⟨el, hk⟩ := isSliceK_eq hk
      obtain ⟨hu, te, hte, hl', -⟩ := kind_slice hty hk
      rw [htes] at hl'
      simp only [List.cons.injEq, LT.sl.injEq, and_true] at hl'
      subst hl'
      obtain ⟨aa, cap, hv, hcap, -, -⟩ := leafSl hleaf
      obtain ⟨lv, hv', hb1, hb2, hb3, hb4, h⟩ := bounds_wp hR lo hi hlo hlo' hhi hhi' h
      have hb3 := of_decide_eq_true hb3
      have hb4 := of_decide_eq_true hb4
      have hrun := run_slice_sl hop hv hu (run_sizeOf (w := w) (hΓ.ty _ _ hte)) hb1 hb2 hb3 hb4 hcap
      rw [← hlen] at hrun
      rw [hv] at hleaf
      have hfin := leaf_part (l := lv.toNat) (h := hv'.toNat) hleaf (by omega) (by omega)
      exact end_setS (e := .one ⟨.sn deps, .sl es, .l ((rows.take hv'.toNat).drop lv.toNat)⟩) hdst hd hR hK hrun ⟨hfin.single, trivial, h2, fun _ => hfin⟩ h
    · cases hk

theorem run_convert {ρ : Operand → Value} {s t : TypeId} {x : Operand} {v : Value} {w' : World} (hop : o.op = .convert s t x) (h : (convert s t (ρ x)).run P w = .ok v w') :
    (execOp ρ o).run P w = .ok (.value v) w' := by
  simp only [execOp, hop]
  rw [Sem.run_bind, h]
  rfl
theorem rowsBytes_ok {S : Foot} : ∀ (rows : List (List T)) (b o : Nat), (∀ i (h : i < rows.length), RowR w S S [.sc (.int .u8)] b (o + i * 1) rows[i]) →
    ∃ ns : List Int, CellsAt w b o (ns.map (Value.int .u8)) ∧ ns.length = rows.length ∧ rowsBytes rows = ⟨(ns.map fun n => UInt8.ofNat n.toNat).toArray⟩
  | [], b, o, _ => ⟨[], trivial, rfl, rfl⟩
  | r :: rs, b, o, h => by
    have h0 := h 0 (by simp)
    unfold RowR at h0
    obtain ⟨d, rest, v, e1, -, hc, hl, -⟩ := h0
    unfold LeafR at hl
    obtain ⟨x, rfl, rfl, -⟩ := hl
    obtain ⟨ns, h1, h2, h3⟩ := rowsBytes_ok rs b (o + 1) fun i hi => by
      have := h (i + 1) (by simpa using hi)
      rw [show o + 1 + i * 1 = o + (i + 1) * 1 from by omega]
      simpa using this
    refine ⟨x :: ns, ⟨by simpa using hc, h1⟩, by simp [h2], ?_⟩
    simp only [List.getElem_cons_zero] at e1
    unfold rowsBytes at h3 ⊢
    have h3 := List.toArray_inj (ByteArray.mk.inj h3)
    rw [List.map_cons, List.map_cons, h3, e1]
    rfl
theorem foldl_push (ns : List Int) : ∀ (acc : ByteArray), ns.foldl (fun r n => r.push (UInt8.ofNat n.toNat)) acc = ⟨(acc.data.toList ++ ns.map fun n => UInt8.ofNat n.toNat).toArray⟩ := by
  induction ns with
  | nil => intro acc; simp
  | cons n ns ih =>
    intro acc
    simp only [List.foldl_cons, ih]
    obtain ⟨data⟩ := acc
    simp [ByteArray.push]
theorem bytes_string {S : Foot} {v : Value} {rows : List (List T)} (h : LeafR w S (.sl [.sc (.int .u8)]) v (.l rows)) :
    (Conv.bytesToString v).run P w = .ok (.string (rowsBytes rows)) w ∧ (rowsBytes rows).size = rows.length := by
  obtain ⟨aa, cap, rfl, h1, h2, h3⟩ := leafSl h
  have hsz : (rowsBytes rows).size = rows.length := by simp [rowsBytes, ByteArray.size]
  refine ⟨?_, hsz⟩
  rcases h3 with rfl | ⟨b, o, rfl, h3⟩
  · cases aa with
    | none => simp [Conv.bytesToString, rowsBytes]; rfl
    | some aa =>
      have := run_bytesToString (P := P) w aa 0 cap [] (by simp [loadCells, loadCellsFrom])
      exact this.trans rfl
  · obtain ⟨ns, h4, h5, h6⟩ := rowsBytes_ok rows b o (by simpa using h3)
    have := run_bytesToString (P := P) w ⟨b, o, none⟩ rows.length cap ns (by
      have := run_loadCells (P := P) h4
      simpa [h5] using this)
    rw [this, h6, foldl_push]
    simp
theorem isByteK_eq {k : TK} (h : isByteK k = true) : k = .sc (.int .u8) := by
  unfold isByteK at h
  split at h
  · rfl
  · cases h
theorem op_convert_read (hΓ : CtxOk Γ P) (hd : dstOk n.np n.nt o = true) (hR : R n σ g I a w) (hK : Post P n I w Q K) {s t : TypeId} {ts tt : TI} {x : Operand} {d0 : Nat} (hop : o.op = .convert s t x)
    (hdst : o.dst = some d0) (hts : TyOk Γ P s ts) (htt : TyOk Γ P t tt) {e : Ent} (he : EntR σ.k g w I e (a.eval x)) (hno : ¬ (ts.kind = .sc .str ∧ ∃ el, tt.kind = .slice el))
    (h : (convStep Γ d0 ts tt e).wp cf σ tr Q) : Goal P o a w K Qm := by
  obtain ⟨ds, hus, hks⟩ := hts.und
  obtain ⟨dt, hut, hkt⟩ := htt.und
  unfold convStep at h
  split at h
  · rename_i k k' e1 e2
    rw [e1] at hks; rw [e2] at hkt
    obtain ⟨rfl, -⟩ := hks
    obtain ⟨rfl, -⟩ := hkt
    obtain ⟨st, d, rfl, hv, h⟩ := scal_wp he h
    split at h
    · rw [← hdst] at h
      obtain ⟨i, hv, rfl, -⟩ := hv
      exact end_sc hd hR hK (s := .int k') (v := .int k' (k'.wrap i)) (run_convert hop (by rw [hv]; simp [convert, run_underlying hus, run_underlying hut, Conv.intToInt])) sc_int h
    · exact h.elim
  · rename_i e1 e2
    rw [e1] at hks; rw [e2] at hkt
    obtain ⟨rfl, -⟩ := hks
    obtain ⟨rfl, -⟩ := hkt
    obtain ⟨st, d, rfl, hv, h⟩ := scal_wp he h
    split at h
    · rw [← hdst] at h
      have hv' := hv
      obtain ⟨i, hv, rfl, -⟩ := hv
      exact end_sc hd hR hK (s := .str) (v := .string i) (run_convert hop (by rw [hv]; simp [convert, run_underlying hus, run_underlying hut])) (by rw [← hv]; exact hv') h
    · exact h.elim
  · rename_i e1 e2; exact absurd ⟨e1, _, e2⟩ hno
  · rename_i el e1 e2
    rw [e1] at hks; rw [e2] at hkt
    obtain ⟨rfl, -⟩ := hks
    obtain ⟨rfl, -⟩ := hkt
    obtain ⟨te, -, hte, h⟩ := tyOf_wp hΓ h
    obtain ⟨hb, h⟩ := h
    obtain ⟨de, hue, hke⟩ := hte.und
    rw [isByteK_eq hb] at hke
    obtain ⟨rfl, -⟩ := hke
    obtain ⟨l, rfl, hl, h⟩ := one1_wp he h
    obtain ⟨es, rows, deps, t', h, hleaf, -, -⟩ := viewSl_wp hR hl h
    split at h
    · rw [← hdst] at h
      obtain ⟨h1, h2⟩ := bytes_string (P := P) hleaf
      obtain ⟨aa, cap, hv, hc1, hc2, -⟩ := leafSl hleaf
      refine end_sc hd hR hK (s := .str) (run_convert hop (v := .string (rowsBytes rows)) ?_) ⟨_, rfl, rfl, ?_⟩ h
      · rw [hv] at h1 ⊢
        rw [run_convert_bytes_string (P := P) w s t el aa _ _ hus hue hut]
        exact h1
      · unfold maxCells at hc2
        omega
    · exact h.elim
  · exact h.elim
end
end Go.E

namespace Go.E
open Go

theorem Keeps.weaken {A B : Foot} {w w' : World} (h : Keeps A w w') (hab : ∀ b o, B b o → A b o) : Keeps B w w' :=
  ⟨h.size, fun b x hx => by
    obtain ⟨y, hy, hk⟩ := h.obj b x hx
    refine ⟨y, hy, ?_⟩
    cases x <;> simp only [KeepObj] at hk ⊢ <;> try exact hk
    obtain ⟨c', h1, h2, h3⟩ := hk
    exact ⟨c', h1, h2, fun o ho => h3 o (hab b o ho)⟩, h.os, h.output, h.tape⟩
def Gh.set (g : Gh) (k : Key) (h : Value) (F : Foot) : Gh := ⟨fun u => if u = k then h else g.h u, fun u => if u = k then F else g.F u, g.D⟩
@[simp] theorem Gh.set_h (g : Gh) (k : Key) (h : Value) (F : Foot) : (g.set k h F).h k = h := by simp [Gh.set]
@[simp] theorem Gh.set_F (g : Gh) (k : Key) (h : Value) (F : Foot) : (g.set k h F).F k = F := by simp [Gh.set]
theorem Gh.set_h' (g : Gh) {k u : Key} (h : Value) (F : Foot) (hu : u ≠ k) : (g.set k h F).h u = g.h u := by simp [Gh.set, hu]
theorem Gh.set_F' (g : Gh) {k u : Key} (h : Value) (F : Foot) (hu : u ≠ k) : (g.set k h F).F u = g.F u := by simp [Gh.set, hu]
theorem setK_same (σ : S) (k : Key) (e : KE) : (σ.setK k e).k k = e := by simp [S.setK, keyEq_self]
theorem setK_other (σ : S) {k u : Key} (e : KE) (h : u ≠ k) : (σ.setK k e).k u = σ.k u := by
  have : keyEq u k = false := by
    cases hb : keyEq u k
    · rfl
    · exact absurd ((keyEq_iff _ _).1 hb) h
  simp [S.setK, this]

section
variable {P : Program} {w w' : World} {I I' A : Foot} {κ κ' : Key → KE} {g g' : Gh}

theorem live_cell {n : Fr} {σ : S} {a : Act} (hR : R n σ g I a w) {k : Key} (hl : Live (σ.k k).ch) {b o : Nat} (hf : g.F k b o) : ∃ v, cellAt w b o = some v := by
  have h := hR.chs k
  cases hc : (σ.k k).ch with
  | gone => rw [hc] at hl; exact hl.elim
  | fz es rows => rw [hc] at hl; exact hl.elim
  | box ls =>
    rw [hc] at h
    obtain ⟨b', o', c, el, fz, -, h1, h2, -, h3, -⟩ := h
    obtain ⟨rfl, h4, h5⟩ := (h3 b o).1 hf
    rw [block_cell h1]
    exact ⟨_, Array.getElem?_eq_getElem (by omega)⟩
  | row es ms rows =>
    rw [hc] at h
    exact RowOwn.cell h hf
  | hob m j ls =>
    rw [hc] at h
    obtain ⟨⟨b', o', c, el, fz, -, h1, h2, -, h3, -⟩, -⟩ := h
    obtain ⟨rfl, h4, h5⟩ := (h3 b o).1 hf
    rw [block_cell h1]
    exact ⟨_, Array.getElem?_eq_getElem (by omega)⟩
  | hol es ms rows r j =>
    rw [hc] at h
    obtain ⟨-, -, -, b', cap, c, el, fz, B1, B2, -, -, h1, -, -, -, -, -, h3, -⟩ := h
    rcases (h3 b o).1 hf with ⟨rfl, h4, -⟩ | h4
    · rw [block_cell h1]
      exact ⟨_, Array.getElem?_eq_getElem h4⟩
    · exact FB_cell h4
theorem cell_lt {b o : Nat} (h : ∃ v, cellAt w b o = some v) : b < w.heap.size := by
  obtain ⟨v, h⟩ := h
  unfold cellAt World.cell? at h
  simp only at h
  split at h
  · rename_i hb
    exact (Array.getElem?_eq_some_iff.1 hb).1
  · cases h

theorem BoxOwn.keep {ls : List Leaf} {h : Value} {F : Foot} (e : Evo κ g w I κ' g' w' I') (hr : BoxOwn κ g w I ls h F) (hk : Keeps A w w') (hA : ∀ b o, F b o → A b o) :
    BoxOwn κ' g' w' I' ls h F := by
  obtain ⟨b, o, c, el, fz, h1, h2, h3, h4, h5, h6⟩ := hr
  obtain ⟨c', h7, h8, h9⟩ := hk.block h2
  refine ⟨b, o, c', el, fz, h1, h7, by omega, h4, h5, ?_⟩
  have : (c'.toList.drop o).take ls.length = (c.toList.drop o).take ls.length := by
    apply List.ext_getElem?
    intro i
    by_cases hi : i < ls.length
    · rw [List.getElem?_take_of_lt hi, List.getElem?_take_of_lt hi, List.getElem?_drop, List.getElem?_drop, Array.getElem?_toList, Array.getElem?_toList]
      exact h9 _ (hA _ _ ((h5 b (o + i)).2 ⟨rfl, by omega, by omega⟩))
    · rw [List.getElem?_eq_none (by simp; omega), List.getElem?_eq_none (by simp; omega)]
  rw [this]
  exact e.lfs h6
theorem HobOwn.keep {k : Key} {m j : Nat} {ls : List Leaf} {h : Value} {F : Foot} (e : Evo κ g w I κ' g' w' I') (hr : HobOwn κ g w I k m j ls h F) (hk : Keeps A w w') (hA : ∀ b o, F b o → A b o) :
    HobOwn κ' g' w' I' k m j ls h F := by
  obtain ⟨⟨b, o, c, el, fz, h1, h2, h3, h4, h5, h6⟩, h7, h8⟩ := hr
  obtain ⟨c', h9, h10, h11⟩ := hk.block h2
  refine ⟨⟨b, o, c', el, fz, h1, h9, by omega, h4, h5, ?_⟩, Nat.le_trans h7 (e.idv _), fun hi => ?_⟩
  · have : (c'.toList.drop (o + m)).take ls.length = (c.toList.drop (o + m)).take ls.length := by
      apply List.ext_getElem?
      intro i
      by_cases hi : i < ls.length
      · rw [List.getElem?_take_of_lt hi, List.getElem?_take_of_lt hi, List.getElem?_drop, List.getElem?_drop, Array.getElem?_toList, Array.getElem?_toList]
        exact h11 _ (hA _ _ ((h5 b (o + m + i)).2 ⟨rfl, by omega, by omega⟩))
      · rw [List.getElem?_eq_none (by simp; omega), List.getElem?_eq_none (by simp; omega)]
    rw [this]
    exact e.lfs h6
  · have h12 : (κ (hobB k)).idv = j := by have := e.idv (hobB k); omega
    rw [(e.head _ (hi.trans h12.symm)).1]; exact h8 h12
theorem HolOwn.keep {k : Key} {es : List LT} {ms : List M} {rows : List (List T)} {r j : Nat} {h : Value} {F : Foot} (e : Evo κ g w I κ' g' w' I') (hr : HolOwn κ g w I k es ms rows r j h F) (hk : Keeps A w w') (hA : ∀ b o, F b o → A b o) :
    HolOwn κ' g' w' I' k es ms rows r j h F := by
  obtain ⟨h0, h1, h2, b, cap, c, el, fz, B1, B2, h3, h4, h5, h6, h7, h8, h9, h10, h11, h12, h13⟩ := hr
  obtain ⟨c', hb, hsz, hcc⟩ := hk.block h5
  have hb1 : ∀ b ∈ B1 ++ B2, ∃ c el fz, Block w b c el fz := fun x hx => (List.mem_append.1 hx).elim (rowsBlocks (I := I) (fun vs ds bs h => LeavesM.blocks es h) _ h8 x) (rowsBlocks (I := I) (fun vs ds bs h => LeavesM.blocks es h) _ h9 x)
  have hcell : ∀ o, o < c.size → ¬ (r * es.length ≤ o ∧ o < (r + 1) * es.length) → c'[o]? = c[o]? := fun o ho hn => hcc o (hA _ _ ((h11 b o).2 (.inl ⟨rfl, ho, hn⟩)))
  have hF : ∀ x ∈ [B1, B2], ∀ b o, FB w x b o → A b o := fun x hx b o hf => hA b o ((h11 b o).2 (.inr (FB_sub (fun y hy => by
    rcases List.mem_cons.1 hx with rfl | hx
    · simp [hy]
    · rw [List.mem_singleton.1 hx] at hy; simp [hy]) b o hf)))
  have hm : (r + 1) * es.length ≤ cap * es.length := Nat.mul_le_mul_right _ (by omega)
  have hr1 : (rows.take r).length = r := by rw [List.length_take]; omega
  refine ⟨h0, h1, h2, b, cap, c', el, fz, B1, B2, h3, h4, hb, hsz.trans h6, by rw [hsz]; exact h7, ?_, ?_, NodupB_keeps hk (fun x hx => by
    rcases List.mem_cons.1 hx with rfl | hx
    · exact ⟨c, el, fz, h5⟩
    · exact hb1 x hx) h10, fun b' o' => ?_, Nat.le_trans h12 (e.idv _), fun hi => ?_⟩
  · refine RowsOf.cells (RowsOf.imp (fun vs ds b' hb' h => LeavesM.keep hk e.imm es (fun b o hf => hF B1 (by simp) b o (FB_sub hb' b o hf)) h) h8) ?_
    rw [hr1]
    apply List.ext_getElem?
    intro i
    by_cases hi : i < r * es.length
    · rw [List.getElem?_take_of_lt hi, List.getElem?_take_of_lt hi, Array.getElem?_toList, Array.getElem?_toList]
      exact hcell i (by rw [Nat.add_mul, Nat.one_mul] at hm; omega) (by omega)
    · rw [List.getElem?_eq_none (by simp; omega), List.getElem?_eq_none (by simp; omega)]
  · refine RowsOf.cells (RowsOf.imp (fun vs ds b' hb' h => LeavesM.keep hk e.imm es (fun b o hf => hF B2 (by simp) b o (FB_sub hb' b o hf)) h) h9) ?_
    congr 1
    apply List.ext_getElem?
    intro i
    rw [List.getElem?_drop, List.getElem?_drop, Array.getElem?_toList, Array.getElem?_toList]
    by_cases hi : (r + 1) * es.length + i < c.size
    · exact hcell _ hi (by omega)
    · rw [Array.getElem?_eq_none (by omega), Array.getElem?_eq_none (by omega)]
  · rw [h11, hsz, FB_keeps hk hb1]
  · have h14 : (κ (holB k)).idv = j := by have := e.idv (holB k); omega
    rw [(e.head _ (hi.trans h14.symm)).1]; exact h13 h14
theorem ChR.keep {k : Key} {ch : Ch} (e : Evo κ g w I κ' g' w' I') (hk : Keeps A w w') (hA : Live ch → ∀ b o, g.F k b o → A b o) (h1 : g'.h k = g.h k) (h2 : g'.F k = g.F k)
    (h : ChR κ g w I k ch) : ChR κ' g' w' I' k ch := by
  cases ch with
  | gone => trivial
  | fz es rows => simp only [ChR] at h ⊢; rw [h1]; exact e.leaf h
  | box ls => simp only [ChR] at h ⊢; rw [h1, h2]; exact h.keep e hk (hA trivial)
  | row es ms rows => simp only [ChR] at h ⊢; rw [h1, h2]; exact h.keep hk (hA trivial) e.imm
  | hob m j ls => simp only [ChR] at h ⊢; rw [h1, h2]; exact h.keep e hk (hA trivial)
  | hol es ms rows r j => simp only [ChR] at h ⊢; rw [h1, h2]; exact h.keep e hk (hA trivial)
end

section
variable {n : Fr} {σ : S} {g : Gh} {I : Foot} {a : Act} {w w' : World}
theorem Keeps.all_cell {w w' : World} (h : Keeps (fun _ _ => True) w w') {b o : Nat} (hv : ∃ v, cellAt w b o = some v) : cellAt w' b o = cellAt w b o := h.cell trivial hv

/-- a chunk is made anew, of memory that is new -/
theorem evo_new (hR : R n σ g I a w) (k : Key) (e : KE) (h : Value) (F : Foot) (h1 : (σ.k k).idv < e.idv) (h2 : (σ.k k).cv < e.cv) (hk : Keeps (fun _ _ => True) w w') :
    Evo σ.k g w I (σ.setK k e).k (g.set k h F) w' I where
  cv u := by by_cases hu : u = k; subst hu; rw [setK_same]; omega; rw [setK_other _ _ hu]; exact Nat.le_refl _
  idv u := by by_cases hu : u = k; subst hu; rw [setK_same]; omega; rw [setK_other _ _ hu]; exact Nat.le_refl _
  foot u hc hl b o hf := by
    by_cases hu : u = k
    · subst hu; rw [setK_same] at hc; omega
    · rw [setK_other _ _ hu, Gh.set_F' _ _ _ hu]
      exact ⟨.inl ⟨hl, hf⟩, hk.all_cell (live_cell hR hl hf)⟩
  head u hc := by
    by_cases hu : u = k
    · subst hu; rw [setK_same] at hc; omega
    · rw [setK_other _ _ hu, Gh.set_h' _ _ _ hu]
      exact ⟨rfl, rfl⟩
  imm b o h := ⟨h, hk.all_cell (hR.iwf b o h)⟩
  dd b o h := ⟨h, hk.all_cell (hR.x.awf b o (hR.x.da b o h))⟩
/-- some names turn ('T'); their memory is new, or it is what nobody else holds ('Z') -/
theorem R.touch (hR : R n σ g I a w) {σ' : S} {g' : Gh} {I' : Foot} (T : Key → Prop) (Z : Foot) (hs : σ'.s = σ.s) (hD : g'.D = g.D)
    (hsame : ∀ k, ¬ T k → σ'.k k = σ.k k ∧ g'.h k = g.h k ∧ g'.F k = g.F k)
    (hT : ∀ k, T k → (σ.k k).cv < (σ'.k k).cv ∧ (σ.k k).idv ≤ (σ'.k k).idv ∧ ((σ'.k k).idv = (σ.k k).idv → g'.h k = g.h k ∧ chEsz (σ'.k k).ch = chEsz (σ.k k).ch))
    (hpar : ∀ k, T k → isPar n.np k → Live (σ'.k k).ch → g'.h k = n.H k)
    (hF : ∀ k, T k → Live (σ'.k k).ch → ∀ b o, g'.F k b o → Z b o ∨ w.heap.size ≤ b)
    (hsep : ∀ k k', T k → T k' → Live (σ'.k k).ch → Live (σ'.k k').ch → k ≠ k' → Foot.apart (g'.F k) (g'.F k'))
    (hZ : ∀ u, ¬ T u → Live (σ.k u).ch → Foot.apart (g.F u) Z) (hZI : Foot.apart Z I) (hZA : Foot.apart Z n.A)
    (hk : Keeps (fun b o => ¬ Z b o) w w')
    (hi1 : ∀ b o, I b o → I' b o) (hi2 : ∀ b o, I' b o → I b o ∨ Z b o ∨ w.heap.size ≤ b) (hi3 : ∀ k, T k → Live (σ'.k k).ch → Foot.apart (g'.F k) I') (hi4 : ∀ b o, I' b o → ∃ v, cellAt w' b o = some v)
    (hch : Evo σ.k g w I σ'.k g' w' I' → ∀ k, T k → ChR σ'.k g' w' I' k (σ'.k k).ch) : R n σ' g' I' a w' ∧ Evo σ.k g w I σ'.k g' w' I' := by
  have ev : Evo σ.k g w I σ'.k g' w' I' := by
    refine ⟨fun k => ?_, fun k => ?_, fun k hc hl b o hf => ?_, fun k hc => ?_, fun b o h => ⟨hi1 b o h, hk.cell (fun hz => hZI b o hz h) (hR.iwf b o h)⟩, fun b o h => ⟨hD ▸ h, hk.cell (fun hz => hZA b o hz (hR.x.da b o h)) (hR.x.awf b o (hR.x.da b o h))⟩⟩
    · by_cases ht : T k
      · exact Nat.le_of_lt (hT k ht).1
      · rw [(hsame k ht).1]; exact Nat.le_refl _
    · by_cases ht : T k
      · exact (hT k ht).2.1
      · rw [(hsame k ht).1]; exact Nat.le_refl _
    · by_cases ht : T k
      · have := (hT k ht).1; omega
      · rw [(hsame k ht).1, (hsame k ht).2.2]
        exact ⟨.inl ⟨hl, hf⟩, hk.cell (fun hz => hZ k ht hl b o hf hz) (live_cell hR hl hf)⟩
    · by_cases ht : T k
      · exact (hT k ht).2.2 hc
      · rw [(hsame k ht).1]; exact ⟨(hsame k ht).2.1, rfl⟩
  have hap : ∀ u, ¬ T u → Live (σ.k u).ch → ∀ k, T k → Live (σ'.k k).ch → ∀ b o, g.F u b o → g'.F k b o → False := fun u hu hl k hk' hlk b o hfu hf => by
    rcases hF k hk' hlk b o hf with hh | hh
    · exact hZ u hu hl b o hfu hh
    · have := cell_lt (live_cell hR hl hfu); omega
  refine ⟨⟨hR.size, hR.nd, fun t => by rw [hs]; exact ev.ent (hR.slots t), fun u => ?_, fun u v hu hv huv => ?_, fun u hu => ?_, hi4, hR.x.step (hk.weaken fun b o ha hz => hZA b o hz ha) hD (fun u hu => ?_) (fun b o hi => ?_)⟩, ev⟩
  · by_cases ht : T u
    · exact hch ev u ht
    · obtain ⟨h1, h2, h3⟩ := hsame u ht
      rw [h1]
      exact ChR.keep ev hk (fun hl b o hf hz => hZ u ht hl b o hf hz) h2 h3 (hR.chs u)
  · by_cases ht : T u
    · by_cases hv' : T v
      · exact hsep u v ht hv' hu hv huv
      · rw [(hsame v hv').1] at hv
        rw [(hsame v hv').2.2]
        exact fun b o h1 h2 => hap v hv' hv u ht hu b o h2 h1
    · rw [(hsame u ht).1] at hu
      rw [(hsame u ht).2.2]
      by_cases hv' : T v
      · exact hap u ht hu v hv' hv
      · rw [(hsame v hv').1] at hv
        rw [(hsame v hv').2.2]
        exact hR.sep u v hu hv huv
  · by_cases ht : T u
    · exact hi3 u ht hu
    · rw [(hsame u ht).1] at hu
      rw [(hsame u ht).2.2]
      intro b o hf hi
      rcases hi2 b o hi with hi | hi | hi
      · exact hR.imm u hu b o hf hi
      · exact hZ u ht hu b o hf hi
      · have := cell_lt (live_cell hR hu hf); omega
  · by_cases ht : T u
    · refine ⟨fun hp => .inr (hpar u ht hp hu), fun b o hf ha => ?_⟩
      rcases hF u ht hu b o hf with hz | hz
      · exact hZA b o hz ha
      · have := cell_lt (hR.x.awf b o ha); omega
    · rw [(hsame u ht).1] at hu
      rw [(hsame u ht).2.1, (hsame u ht).2.2]
      exact ⟨fun _ => .inl ⟨hu, rfl⟩, hR.x.frm u hu⟩
  · rcases hi2 b o hi with hi | hi | hi
    · exact .inl hi
    · exact .inr fun ha => hZA b o hi ha
    · exact .inr fun ha => by have := cell_lt (hR.x.awf b o ha); omega
theorem R.newChunk (hR : R n σ g I a w) (k : Key) (e : KE) (h : Value) (F : Foot) (h1 : (σ.k k).idv < e.idv) (h2 : (σ.k k).cv < e.cv) (hk : Keeps (fun _ _ => True) w w')
    (hkp : ¬ isPar n.np k) (hF : ∀ b o, F b o → w.heap.size ≤ b) (hch : ChR (σ.setK k e).k (g.set k h F) w' I k e.ch) : R n (σ.setK k e) (g.set k h F) I a w' := by
  refine (hR.touch (σ' := σ.setK k e) (g' := g.set k h F) (I' := I) (w' := w') (fun u => u = k) (fun _ _ => False) rfl rfl (fun u hu => ⟨setK_other _ _ hu, Gh.set_h' _ _ _ hu, Gh.set_F' _ _ _ hu⟩) (fun u hu => ?_) (fun u hu hp => ?_) (fun u hu _ b o hf => ?_) (fun u v hu hv _ _ hne => ?_)
    (fun _ _ _ _ _ _ h => h) (fun _ _ h _ => h) (fun _ _ h _ => h) (hk.weaken fun _ _ _ => trivial) (fun _ _ h => h) (fun _ _ h => .inl h) (fun u hu _ b o hf hi => ?_) (fun b o hi => ?_) (fun _ u hu => ?_)).1
  · subst hu; rw [setK_same]; exact ⟨h2, Nat.le_of_lt h1, fun h => by omega⟩
  · subst hu; exact absurd hp hkp
  · subst hu; rw [Gh.set_F] at hf; exact .inr (hF b o hf)
  · exact absurd (hu.trans hv.symm) hne
  · subst hu; rw [Gh.set_F] at hf
    have := cell_lt (hR.iwf b o hi); have := hF b o hf; omega
  · obtain ⟨v, hv⟩ := hR.iwf b o hi
    exact ⟨v, (hk.all_cell ⟨v, hv⟩).trans hv⟩
  · subst hu; rw [setK_same]; exact hch
/-- nothing turns but for memory that nobody holds -/
theorem R.world (hR : R n σ g I a w) (hk : Keeps (fun _ _ => True) w w') : R n σ g I a w' := by
  have ev : Evo σ.k g w I σ.k g w' I := ⟨fun _ => Nat.le_refl _, fun _ => Nat.le_refl _, fun u _ hl b o hf => ⟨.inl ⟨hl, hf⟩, hk.all_cell (live_cell hR hl hf)⟩, fun _ _ => ⟨rfl, rfl⟩,
    fun b o h => ⟨h, hk.all_cell (hR.iwf b o h)⟩, fun b o h => ⟨h, hk.all_cell (hR.x.awf b o (hR.x.da b o h))⟩⟩
  refine ⟨hR.size, hR.nd, fun t => ev.ent (hR.slots t), fun u => ChR.keep ev hk (fun _ _ _ _ => trivial) rfl rfl (hR.chs u), hR.sep, hR.imm, fun b o hi => ?_, hR.x.step (hk.weaken fun _ _ _ => trivial) rfl (fun k h => ⟨fun _ => .inl ⟨h, rfl⟩, hR.x.frm k h⟩) (fun _ _ h => .inl h)⟩
  obtain ⟨v, hv⟩ := hR.iwf b o hi
  exact ⟨v, (hk.all_cell ⟨v, hv⟩).trans hv⟩

/-! the world's own steps -/
theorem keeps_drawn (w : World) (m : Nat) : Keeps (fun _ _ => True) w { w with drawn := m } := ⟨Nat.le_refl _, fun b x h => ⟨x, h, .refl _ _ _⟩, rfl, rfl, rfl⟩
def World.pushed (w : World) (o : Obj) : World := { w with heap := w.heap.push o }
theorem keeps_push (w : World) (o : Obj) : Keeps (fun _ _ => True) w (World.pushed w o) :=
  ⟨by simp [World.pushed], fun b x h => ⟨x, by
    have hlt := (Array.getElem?_eq_some_iff.1 h).1
    simp only [World.pushed, Array.getElem?_push_lt hlt]
    rw [← h, Array.getElem?_eq_getElem hlt], .refl _ _ _⟩, rfl, rfl, rfl⟩
theorem pushed_block (w : World) (c : Array Value) (el : TypeId) (fz : Nat × Nat) : Block (World.pushed w (.cells c el fz)) w.heap.size c el fz := by
  unfold Block World.pushed
  simp only [Array.getElem?_push_size]
theorem run_newRow {P : Program} {el : TypeId} {c : Array Value} : (newRow el c).run P w = .ok ⟨w.heap.size, 0, none⟩ (World.pushed w (.cells c el)) := by
  simp only [newRow, newObj]
  rfl
end
end Go.E

namespace Go.E
open Go

section
variable {n : Fr} {σ : S} {g : Gh} {I : Foot} {a : Act} {w w' : World}
/-- a chunk of rows is read alone from now on -/
theorem R.freeze (hR : R n σ g I a w) {key : Key} {es : List LT} {ms : List M} {rows : List (List T)} (hc : (σ.k key).ch = .row es ms rows) :
    R n (σ.setK key { σ.k key with ch := .fz es rows }) g (fun b o => I b o ∨ g.F key b o) a w ∧
    Evo σ.k g w I (σ.setK key { σ.k key with ch := .fz es rows }).k g w (fun b o => I b o ∨ g.F key b o) := by
  have ev : Evo σ.k g w I (σ.setK key { σ.k key with ch := .fz es rows }).k g w (fun b o => I b o ∨ g.F key b o) := by
    refine ⟨fun u => ?_, fun u => ?_, fun u hcv hl b o hf => ?_, fun u hid => ?_, fun b o h => ⟨.inl h, rfl⟩, fun b o h => ⟨h, rfl⟩⟩
    · by_cases hu : u = key
      · subst hu; rw [setK_same]; exact Nat.le_refl _
      · rw [setK_other _ _ hu]; exact Nat.le_refl _
    · by_cases hu : u = key
      · subst hu; rw [setK_same]; exact Nat.le_refl _
      · rw [setK_other _ _ hu]; exact Nat.le_refl _
    · by_cases hu : u = key
      · subst hu; exact ⟨.inr (.inr hf), rfl⟩
      · rw [setK_other _ _ hu]; exact ⟨.inl ⟨hl, hf⟩, rfl⟩
    · by_cases hu : u = key
      · subst hu; rw [setK_same, hc]; exact ⟨rfl, rfl⟩
      · rw [setK_other _ _ hu]; exact ⟨rfl, rfl⟩
  refine ⟨⟨hR.size, hR.nd, fun t => ev.ent (hR.slots t), fun u => ?_, fun u v hu hv huv => ?_, fun u hu => ?_, fun b o hi => ?_, hR.x.step (Keeps.refl _ _) rfl (fun u hu => ?_) (fun b o hb => ?_)⟩, ev⟩
  · by_cases huk : u = key
    · subst huk
      rw [setK_same]
      have := hR.chs u
      rw [hc] at this
      exact RowOwn.leaf this (fun _ _ h => .inl h) (fun _ _ h => .inr h)
    · rw [setK_other _ _ huk]
      exact ChR.keep ev (Keeps.refl (fun _ _ => True) w) (fun _ _ _ _ => trivial) rfl rfl (hR.chs u)
  · have hu' : u ≠ key := by rintro rfl; rw [setK_same] at hu; exact hu
    have hv' : v ≠ key := by rintro rfl; rw [setK_same] at hv; exact hv
    rw [setK_other _ _ hu'] at hu
    rw [setK_other _ _ hv'] at hv
    exact hR.sep u v hu hv huv
  · have hu' : u ≠ key := by rintro rfl; rw [setK_same] at hu; exact hu
    rw [setK_other _ _ hu'] at hu
    intro b o hf hi
    rcases hi with hi | hi
    · exact hR.imm u hu b o hf hi
    · exact hR.sep u key hu (by rw [hc]; trivial) hu' b o hf hi
  · rcases hi with hi | hi
    · exact hR.iwf b o hi
    · exact live_cell hR (by rw [hc]; trivial) hi
  · have hu' : u ≠ key := by rintro rfl; rw [setK_same] at hu; exact hu
    rw [setK_other _ _ hu'] at hu
    exact ⟨fun _ => .inl ⟨hu, rfl⟩, hR.x.frm u hu⟩
  · exact hb.imp id fun hf ha => hR.x.frm key (by rw [hc]; trivial) b o hf ha

variable {cf : FuncId → List Arg → R3 Ret} {Q : S → Tr → Prop}
theorem noO_cons {m : M} {ms : List M} (h : ∀ x, m ≠ .O x) (h' : noO ms) : noO (m :: ms) := by
  intro y hy x
  rcases List.mem_cons.1 hy with rfl | hy
  · exact h x
  · exact h' y hy x
/-- memory that nobody holds -/
structure Lim (n : Fr) (σ : S) (g : Gh) (I : Foot) (Z : Foot) : Prop where
  live : ∀ u, Live (σ.k u).ch → Foot.apart (g.F u) Z
  imm : Foot.apart Z I
  frm : Foot.apart Z n.A
theorem Lim.none : Lim n σ g I (fun _ _ => False) := ⟨fun _ _ _ _ _ h => h, fun _ _ h _ => h, fun _ _ h _ => h⟩
theorem Lim.sub {Z Z' : Foot} (h : Lim n σ g I Z) (hs : ∀ b o, Z' b o → Z b o) : Lim n σ g I Z' :=
  ⟨fun u hu b o h1 h2 => h.live u hu b o h1 (hs b o h2), fun b o h1 h2 => h.imm b o (hs b o h1) h2, fun b o h1 h2 => h.frm b o (hs b o h1) h2⟩
theorem Lim.frz {Z : Foot} (h : Lim n σ g I Z) {key : Key} {es : List LT} {ms : List M} {rows : List (List T)} (hc : (σ.k key).ch = .row es ms rows) : Lim n (σ.setK key { σ.k key with ch := .fz es rows }) g (fun b o => I b o ∨ g.F key b o) Z := by
  refine ⟨fun u hu => ?_, fun b o h1 h2 => ?_, h.frm⟩
  · by_cases huk : u = key
    · subst huk; rw [setK_same] at hu; exact hu.elim
    · rw [setK_other _ _ huk] at hu; exact h.live u hu
  · rcases h2 with h2 | h2
    · exact h.imm b o h1 h2
    · exact h.live key (by rw [hc]; trivial) b o h2 h1
/-- a chunk is let go -/
theorem R.gone (hR : R n σ g I a w) (k : Key) : R n (σ.setK k ⟨.gone, (σ.k k).idv + 1, (σ.k k).cv + 1⟩) g I a w ∧
    Evo σ.k g w I (σ.setK k ⟨.gone, (σ.k k).idv + 1, (σ.k k).cv + 1⟩).k g w I := by
  have nl : ¬ Live ((σ.setK k ⟨.gone, (σ.k k).idv + 1, (σ.k k).cv + 1⟩).k k).ch := by rw [setK_same]; exact id
  refine hR.touch (σ' := σ.setK k ⟨.gone, (σ.k k).idv + 1, (σ.k k).cv + 1⟩) (g' := g) (I' := I) (w' := w) (fun u => u = k) (fun _ _ => False) rfl rfl (fun u hu => ⟨setK_other _ _ hu, rfl, rfl⟩) (fun u hu => ?_) (fun u hu _ hl => ?_) (fun u hu hl => ?_) (fun u v hu _ hl => ?_)
    (fun _ _ _ _ _ _ h => h) (fun _ _ h _ => h) (fun _ _ h _ => h) (Keeps.refl _ _) (fun _ _ h => h) (fun _ _ h => .inl h) (fun u hu hl => ?_) hR.iwf (fun _ u hu => ?_)
  · subst hu; rw [setK_same]; exact ⟨Nat.lt_succ_self _, Nat.le_succ _, fun h => by have h : (σ.k u).idv + 1 = (σ.k u).idv := h; omega⟩
  · subst hu; exact (nl hl).elim
  · subst hu; exact (nl hl).elim
  · subst hu; exact (nl hl).elim
  · subst hu; exact (nl hl).elim
  · subst hu; rw [setK_same]; trivial
theorem Lim.gone (hR : R n σ g I a w) {Z : Foot} (h : Lim n σ g I Z) {key : Key} (hl : Live (σ.k key).ch) : Lim n (σ.setK key ⟨.gone, (σ.k key).idv + 1, (σ.k key).cv + 1⟩) g I (fun b o => Z b o ∨ g.F key b o) := by
  refine ⟨fun u hu => ?_, fun b o h1 h2 => ?_, fun b o h1 h2 => ?_⟩
  · by_cases huk : u = key
    · subst huk; rw [setK_same] at hu; exact hu.elim
    · rw [setK_other _ _ huk] at hu
      exact fun b o h1 h2 => h2.elim (h.live u hu b o h1) (hR.sep u key hu hl huk b o h1)
  · exact h1.elim (fun h1 => h.imm b o h1 h2) fun h1 => hR.imm key hl b o h1 h2
  · exact h1.elim (fun h1 => h.frm b o h1 h2) fun h1 => hR.x.frm key hl b o h1 h2
/-- what goes into rows is related in what is never written again, or nobody holds it any longer -/
theorem absorb_wp : ∀ {es : List LT} {ms : List M} {ls : List Leaf} {vs : List Value} {σ : S} {I Z : Foot} {k : List T → Prog} {tr : Tr}, R n σ g I a w → Lim n σ g I Z → LfsR σ.k g w I ls vs →
    (absorb es ms ls k).wp cf σ tr Q → ∃ σ' I' tr' ds bs, R n σ' g I' a w ∧ Evo σ.k g w I σ'.k g w I' ∧ LeavesM w I' es ms vs ds bs ∧ NodupB w bs ∧ Lim n σ' g I' (fun b o => Z b o ∨ FB w bs b o) ∧ Foot.apart Z (FB w bs) ∧ σ'.s = σ.s ∧
      (k ds).wp cf σ' tr' Q
  | [], ms, [], [], σ, I, Z, k, tr, hR, hZ, hl, h => ⟨σ, I, tr, [], [], hR, Evo.refl, by unfold LeavesM; exact ⟨rfl, rfl, rfl⟩, by unfold NodupB; trivial, hZ.sub (fun b o h => h.elim id fun h => (nomatch h.1)), (fun b o _ h => (nomatch h.1)), rfl, h⟩
  | [], _, [], _ :: _, σ, I, Z, k, tr, hR, hZ, hl, h => hl.elim
  | [], _, _ :: _, vs, σ, I, Z, k, tr, hR, hZ, hl, h => h.elim
  | _ :: _, _, [], vs, σ, I, Z, k, tr, hR, hZ, hl, h => h.elim
  | e :: es, _, l :: ls, [], σ, I, Z, k, tr, hR, hZ, hl, h => hl.elim
  | e :: es, ms, l :: ls, v :: vs, σ, I, Z, k, tr, hR, hZ, hl, h => by
    obtain ⟨st, lt, d⟩ := l
    -- one leaf, related at once
    have step : ∀ (d : T) (b1 : List Nat) (σ₁ : S) (I₁ : Foot) (tr₁ : Tr), R n σ₁ g I₁ a w → Evo σ.k g w I σ₁.k g w I₁ → σ₁.s = σ.s → CellM w I₁ e (ms.headD .F) v d b1 → NodupB w b1 → Lim n σ₁ g I₁ (fun b o => Z b o ∨ FB w b1 b o) → Foot.apart Z (FB w b1) →
        (absorb es ms.tail ls fun ds => k (d :: ds)).wp cf σ₁ tr₁ Q →
        ∃ σ' I' tr' ds bs, R n σ' g I' a w ∧ Evo σ.k g w I σ'.k g w I' ∧ LeavesM w I' (e :: es) ms (v :: vs) ds bs ∧ NodupB w bs ∧ Lim n σ' g I' (fun b o => Z b o ∨ FB w bs b o) ∧ Foot.apart Z (FB w bs) ∧ σ'.s = σ.s ∧ (k ds).wp cf σ' tr' Q := by
      intro d b1 σ₁ I₁ tr₁ hR₁ ev hs hc hn hz hza h
      obtain ⟨σ', I', tr', ds, b2, h1, h2, h3, h4, h5, h6, h7, h8⟩ := absorb_wp hR₁ hz (ev.lfs hl.2) h
      refine ⟨σ', I', tr', d :: ds, b1 ++ b2, h1, ev.trans h2, ?_, NodupB_app.2 ⟨hn, h4, FB_apart.1 fun b o h9 h10 => h6 b o (.inr h9) h10⟩, h5.sub fun b o h9 => ?_, fun b o h9 h10 => ?_, h7.trans hs, h8⟩
      · unfold LeavesM
        exact ⟨v, vs, d, ds, b1, b2, rfl, rfl, rfl, CellM.same (fun b o hb => (h2.imm b o hb).1) hc, h3⟩
      · rw [FB_app] at h9
        rcases h9 with h9 | h9 | h9
        · exact .inl (.inl h9)
        · exact .inl (.inr h9)
        · exact .inr h9
      · rcases FB_app.1 h10 with h10 | h10
        · exact hza b o h9 h10
        · exact h6 b o (.inl h9) h10
    have hzn : ∀ {σ₁ : S} {I₁ : Foot}, Lim n σ₁ g I₁ Z → Lim n σ₁ g I₁ (fun b o => Z b o ∨ FB w [] b o) := fun hz => hz.sub fun b o h => h.elim id fun h => (nomatch h.1)
    have hzna : Foot.apart Z (FB w []) := fun b o _ h => (nomatch h.1)
    obtain ⟨hs, hl1⟩ := hl.1
    unfold absorb at h
    simp only at h hl1
    split at h
    · rename_i s s' _ _ _
      split at h
      · rename_i hss
        subst hss
        obtain ⟨s', e1, hv⟩ := hl1
        cases e1
        exact step d [] σ I tr hR Evo.refl rfl (by unfold CellM; exact ⟨hv, rfl⟩) trivial (hzn hZ) hzna h
      · exact h.elim
    · obtain ⟨-, rfl, -⟩ := hl1
      rename_i es'
      have hnil : LeafR w I (.sl es') (.slice none 0 0) (.l []) := by unfold LeafR; exact ⟨none, 0, [], rfl, rfl, Nat.le_refl _, Nat.zero_le _, .inl rfl⟩
      obtain ⟨hne, h⟩ := h
      refine step (.l []) [] σ I tr hR Evo.refl rfl ?_ trivial (hzn hZ) hzna h
      cases hm : ms.headD .F with
      | F => unfold CellM; exact ⟨hnil, rfl⟩
      | O x =>
        rw [hm] at hne
        unfold CellM
        exact ⟨[], rfl, by intro e; subst e; simp at hne, Nat.zero_le _, .inl ⟨⟨_, rfl⟩, rfl, rfl⟩⟩
    · rename_i es'
      cases hm : ms.headD .F with
      | O x => rw [hm] at h; exact h.elim
      | F =>
        rw [hm] at h
        simp only at h
        cases hb : LT.beq (.sl es') lt with
        | false => rw [hb] at h; exact h.elim
        | true =>
          rw [hb] at h
          have hlt := LT.beq_eq hb
          subst hlt
          obtain ⟨-, -, h1⟩ := hl1
          have h2 := h1 (cur_nil _)
          refine step d [] σ I tr hR Evo.refl rfl ?_ trivial (hzn hZ) hzna h
          rw [hm]; unfold CellM
          exact ⟨LeafR.mono (fun b o hb => hb.elim id (fun ⟨d, hd, _⟩ => (nomatch hd))) (fun _ _ _ => rfl) _ h2, rfl⟩
    · rename_i es' key m
      obtain ⟨-, h1, h2⟩ := hl1
      obtain ⟨h3, h⟩ := h
      have hv := h2 (Nat.eq_of_beq_eq_true h3)
      subst hv
      have hch := hR.chs key
      split at h
      · rename_i es'' rows e1
        rw [e1] at hch
        cases hm : ms.headD .F with
        | O x => rw [hm] at h; exact h.elim
        | F =>
          rw [hm] at h
          simp only at h
          cases hb : LT.beqs es' es'' with
          | false => rw [hb] at h; exact h.elim
          | true =>
            rw [hb] at h
            have := LT.beqs_eq hb
            subst this
            refine step (.l rows) [] σ I _ hR Evo.refl rfl ?_ trivial (hzn hZ) hzna h
            rw [hm]; unfold CellM
            exact ⟨hch, rfl⟩
      · rename_i es'' ms'' rows e1
        rw [e1] at hch
        cases hm : ms.headD .F with
        | F =>
          rw [hm] at h
          simp only at h
          cases hb : LT.beqs es' es'' with
          | false => rw [hb] at h; exact h.elim
          | true =>
            rw [hb] at h
            have := LT.beqs_eq hb
            subst this
            obtain ⟨h4, h5⟩ := hR.freeze e1
            refine step (.l rows) [] _ _ _ h4 h5 rfl ?_ trivial (hzn (hZ.frz e1)) hzna h
            rw [hm]; unfold CellM
            exact ⟨RowOwn.leaf hch (fun _ _ h => .inl h) (fun _ _ h => .inr h), rfl⟩
        | O ms' =>
          rw [hm] at h
          simp only at h
          cases hb : (LT.beqs es' es'' && M.beqs ms' ms'') with
          | false => rw [hb] at h; exact h.elim
          | true =>
            rw [hb] at h
            simp only [Bool.and_eq_true] at hb
            have := LT.beqs_eq hb.1
            subst this
            have := M.beqs_eq hb.2
            subst this
            obtain ⟨h4, h5⟩ := hR.gone key
            obtain ⟨bs, hn, hc, hF⟩ := hch
            have hlive : Live (σ.k key).ch := by rw [e1]; trivial
            refine step (.l rows) bs _ _ _ h4 h5 rfl (by rw [hm]; exact hc) hn ((hZ.gone hR hlive).sub fun b o h => h.imp id fun h => (hF b o).2 h) (fun b o h9 h10 => hZ.live key hlive b o ((hF b o).2 h10) h9) h
      · exact h.elim
    · exact h.elim
end
end Go.E

namespace Go.E
open Go

section
variable {w : World} {I S A : Foot}
/-- rows, one behind the other -/
def RowsV (w : World) (I : Foot) (es : List LT) : List (List T) → List Value → Prop
  | [], _ => True
  | r :: rs, cs => LeavesR w I es (cs.take es.length) r ∧ RowsV w I es rs (cs.drop es.length)
theorem RowsV.row {b : Nat} {c : Array Value} {el : TypeId} {fz : Nat × Nat} {es : List LT} (hb : Block w b c el fz) : ∀ (rows : List (List T)) (k : Nat), RowsV w I es rows (c.toList.drop k) → k + rows.length * es.length ≤ c.size →
    ∀ i (hi : i < rows.length), RowR w (fun _ _ => True) I es b (k + i * es.length) rows[i]
  | [], _, _, _, i, hi => by simp at hi
  | r :: rs, k, h, hn, i, hi => by
    have hn' : k + es.length + rs.length * es.length ≤ c.size := by simp only [List.length_cons, Nat.add_mul] at hn; omega
    cases i with
    | zero =>
      refine RowR.of_vals (vs := (c.toList.drop k).take es.length) (by simpa using h.1) (CellsAt.of_block hb _ _ fun j hj => ?_)
      simp only [List.length_take, List.length_drop, Array.length_toList] at hj
      simp only [List.getElem_take, List.getElem_drop, Array.getElem_toList, Nat.zero_mul, Nat.add_zero]
      exact Array.getElem?_eq_getElem (by omega)
    | succ i =>
      have h2 := h.2
      rw [List.drop_drop] at h2
      have := RowsV.row hb rs (k + es.length) h2 hn' i (by simpa using hi)
      rw [show k + (i + 1) * es.length = k + es.length + i * es.length from by rw [Nat.add_mul]; omega]
      simpa using this
theorem RowsV.mono {w w' : World} {I I' : Foot} (h : ∀ b o, I b o → I' b o ∧ cellAt w' b o = cellAt w b o) {es : List LT} : ∀ {rows : List (List T)} {cs : List Value}, RowsV w I es rows cs → RowsV w' I' es rows cs
  | [], _, _ => trivial
  | _ :: _, _, hh => ⟨hh.1.mono h, RowsV.mono h hh.2⟩
theorem RowsV.toM {es : List LT} {ms : List M} (hm : noO ms) : ∀ {rows : List (List T)} {cs : List Value}, RowsV w I es rows cs → RowsOf (fun vs ds bs => LeavesM w I es ms vs ds bs) es.length rows cs []
  | [], cs, _ => rfl
  | r :: rs, cs, h => ⟨[], [], rfl, LeavesM.of_flat hm h.1, RowsV.toM hm h.2⟩
theorem RowsOf.toV {es : List LT} {ms : List M} {S : Foot} (hs : ∀ b o, I b o → S b o) : ∀ {rows : List (List T)} {cs : List Value} {bs : List Nat}, (∀ b o, FB w bs b o → S b o) → RowsOf (fun vs ds bs => LeavesM w I es ms vs ds bs) es.length rows cs bs → RowsV w S es rows cs
  | [], cs, bs, _, _ => trivial
  | r :: rs, cs, bs, hb, h => by
    obtain ⟨b1, b2, rfl, h1, h2⟩ := h
    exact ⟨LeavesM.leaves hs es (fun b o h => hb b o (FB_app.2 (.inl h))) h1, RowsOf.toV hs (fun b o h => hb b o (FB_app.2 (.inr h))) h2⟩
theorem RowsV.app {es : List LT} : ∀ {rows rows' : List (List T)} {cs cs' : List Value}, RowsV w I es rows cs → cs.length = rows.length * es.length → RowsV w I es rows' cs' → RowsV w I es (rows ++ rows') (cs ++ cs')
  | [], rows', cs, cs', h, hn, h' => by
    have : cs = [] := List.length_eq_zero_iff.1 (by simpa using hn)
    subst this; exact h'
  | r :: rs, rows', cs, cs', h, hn, h' => by
    simp only [List.length_cons, Nat.add_mul, Nat.one_mul] at hn
    have hle : es.length ≤ cs.length := by omega
    refine ⟨?_, ?_⟩
    · rw [List.take_append_of_le_length hle]; exact h.1
    · rw [List.drop_append_of_le_length hle]
      exact RowsV.app h.2 (by rw [List.length_drop]; omega) h'
theorem RowsV.tail {es : List LT} : ∀ {rows : List (List T)} {cs cs' : List Value}, RowsV w I es rows cs → RowsV w I es rows (cs ++ cs')
  | [], cs, cs', h => trivial
  | r :: rs, cs, cs', h => by
    have hlen := h.1.len.1
    have hle : es.length ≤ cs.length := by rw [List.length_take] at hlen; omega
    refine ⟨?_, ?_⟩
    · rw [List.take_append_of_le_length hle]; exact h.1
    · rw [List.drop_append_of_le_length hle]; exact RowsV.tail h.2
end

section
variable {Γ : Ctx} {P : Program} {cf : FuncId → List Arg → R3 Ret}
variable {n : Fr} {σ : S} {g : Gh} {I : Foot} {a : Act} {w w' : World}
variable {o : Oper} {f : FuncId} {tr : Tr} {Q : S → Tr → Prop} {K : Act → World → Prop} {Qm : Exit → Act → World → Prop}

/-- the end of a step that makes a variable -/
theorem end_box {d0 : Nat} {c : Array Value} {el : TypeId} {ls : List Leaf} (hdst : o.dst = some d0) (hd : dstOk n.np n.nt o = true) (hR : R n σ g I a w) (hK : Post P n I w Q K)
    (hrun : (execOp a.eval o).run P w = .ok (.value (.pointer (some ⟨w.heap.size, 0, none⟩))) (World.pushed w (.cells c el))) (hl : LfsR σ.k g w I ls c.toList)
    (h : (mkBox d0 ls).wp cf σ tr Q) : Goal P o a w K Qm := by
  refine goal_value hrun ?_
  rw [hdst]
  obtain ⟨hdn, hkp⟩ := dst_ok hd hdst
  let F : Foot := fun b o' => b = w.heap.size ∧ o' < c.size
  have hk := keeps_push w (.cells c el)
  have ev := evo_new hR [d0 + 2000000] ⟨.box ls, (σ.k [d0 + 2000000]).idv + 1, (σ.k [d0 + 2000000]).cv + 1⟩ (.pointer (some ⟨w.heap.size, 0, none⟩)) F (by simp) (by simp) hk
  have hlen := hl.len
  have hbox : BoxOwn (σ.setK [d0 + 2000000] ⟨.box ls, (σ.k [d0 + 2000000]).idv + 1, (σ.k [d0 + 2000000]).cv + 1⟩).k (g.set [d0 + 2000000] (.pointer (some ⟨w.heap.size, 0, none⟩)) F) (World.pushed w (.cells c el)) I ls (.pointer (some ⟨w.heap.size, 0, none⟩)) F := by
    refine ⟨w.heap.size, 0, c, el, (0, 0), rfl, pushed_block w c el (0, 0), by simp at hlen; omega, fun j hj => by omega, fun b' o' => ?_, ?_⟩
    · simp only [F, Nat.zero_le, true_and, Nat.zero_add]
      simp at hlen
      rw [hlen]
    · rw [List.drop_zero, ← hlen, List.take_length]
      exact ev.lfs hl
  have hR' := hR.newChunk [d0 + 2000000] ⟨.box ls, (σ.k [d0 + 2000000]).idv + 1, (σ.k [d0 + 2000000]).cv + 1⟩ (.pointer (some ⟨w.heap.size, 0, none⟩)) F (by simp) (by simp) hk (hkp n.big _) (fun b o' hf => by rw [hf.1]; exact Nat.le_refl _)
    (by simp only [ChR, Gh.set_h, Gh.set_F]; exact hbox)
  refine hK _ _ _ I _ _ h (hR'.put hdn (e := .ptr [d0 + 2000000] ((σ.k [d0 + 2000000]).idv + 1) 0 0) ⟨⟨fun _ h => (nomatch h), fun _ h => (nomatch h)⟩, ?_, fun _ => ⟨w.heap.size, 0, rfl, ?_⟩⟩) (fun _ _ h => h) (hk.weaken fun _ _ _ => trivial)
  · rw [setK_same]; exact Nat.le_refl _
  · rw [Gh.set_h]; rfl
/-- the end of a step that makes rows; what hangs in them was held by nobody -/
theorem end_rowM {d0 : Nat} {c : Array Value} {el : TypeId} {fz : Nat × Nat} {es : List LT} {ms : List M} {rows : List (List T)} {b cap : Nat} {bs : List Nat} {p : Prog} {Q : S → Tr → Prop} (hdst : o.dst = some d0) (hd : dstOk n.np n.nt o = true) (hR : R n σ g I a w) (hK : Post P n I w Q K)
    (hk : Keeps (fun _ _ => True) w w') (hb : w.heap.size ≤ b) (hblk : Block w' b c el fz) (hfz : ∀ o', o' ≤ c.size → ¬ (fz.1 ≤ o' ∧ o' < fz.2))
    (hrun : (execOp a.eval o).run P w = .ok (.value (.slice (some ⟨b, 0, none⟩) rows.length cap)) w') (hes : es ≠ []) (h1 : rows.length ≤ maxCells) (h2 : rows.length ≤ cap)
    (h4 : c.size = cap * es.length) (hn : NodupB w bs) (hz : Lim n σ g I (FB w bs)) (hrows : RowsOf (fun vs ds bs => LeavesM w I es ms vs ds bs) es.length rows c.toList bs) (h : (mkRow d0 es ms rows).wp cf σ tr Q) : Goal P o a w K Qm := by
  refine goal_value hrun ?_
  rw [hdst]
  obtain ⟨hdn, hkp⟩ := dst_ok hd hdst
  have hbs : ∀ x ∈ bs, ∃ c el fz, Block w x c el fz := rowsBlocks (I := I) (fun vs ds bs h => LeavesM.blocks es h) _ hrows
  have hlt : ∀ x ∈ bs, x < w.heap.size := fun x hx => by
    obtain ⟨c, el, fz, h⟩ := hbs x hx
    exact (Array.getElem?_eq_some_iff.1 h).1
  let F : Foot := fun b' o' => (b' = b ∧ o' < c.size) ∨ FB w bs b' o'
  let e : KE := ⟨.row es ms rows, (σ.k [d0 + 2000000]).idv + 1, (σ.k [d0 + 2000000]).cv + 1⟩
  have hiI : ∀ b o, I b o → I b o ∧ cellAt w' b o = cellAt w b o := fun b o hi => ⟨hi, hk.all_cell (hR.iwf b o hi)⟩
  have hrow : RowOwn w' I es ms rows (.slice (some ⟨b, 0, none⟩) rows.length cap) F := by
    refine RowOwn.mk' hes h1 h2 hblk h4 hfz (RowsOf.imp (fun vs ds b' _ h => LeavesM.keep hk hiI es (fun _ _ _ => trivial) h) hrows) ⟨fun hm => ?_, NodupB_keeps hk hbs hn⟩ (fun b' o' => ?_)
    · have := hlt b hm; omega
    · rw [FB_keeps hk hbs]
  obtain ⟨hR', -⟩ := hR.touch (σ' := σ.setK [d0 + 2000000] e) (g' := g.set [d0 + 2000000] (.slice (some ⟨b, 0, none⟩) rows.length cap) F) (I' := I) (w' := w') (fun u => u = [d0 + 2000000]) (FB w bs) rfl rfl
    (fun u hu => ⟨setK_other _ _ hu, Gh.set_h' _ _ _ hu, Gh.set_F' _ _ _ hu⟩) (fun u hu => by subst hu; rw [setK_same]; exact ⟨Nat.lt_succ_self _, Nat.le_succ _, fun h => by have h : (σ.k [d0 + 2000000]).idv + 1 = (σ.k [d0 + 2000000]).idv := h; omega⟩)
    (fun u hu hp => by subst hu; exact absurd hp (hkp n.big _)) (fun u hu _ b' o' hf => by subst hu; rw [Gh.set_F] at hf; exact hf.elim (fun h => .inr (by rw [h.1]; exact hb)) .inl)
    (fun u v hu hv _ _ hne => absurd (hu.trans hv.symm) hne) (fun u _ hl => hz.live u hl) hz.imm hz.frm (hk.weaken fun _ _ _ => trivial) (fun _ _ h => h) (fun _ _ h => .inl h)
    (fun u hu _ b' o' hf hi => by
      subst hu; rw [Gh.set_F] at hf
      rcases hf with hf | hf
      · have := cell_lt (hR.iwf b' o' hi); rw [hf.1] at this; omega
      · exact hz.imm b' o' hf hi)
    (fun b' o' hi => by obtain ⟨v, hv⟩ := hR.iwf b' o' hi; exact ⟨v, (hk.all_cell ⟨v, hv⟩).trans hv⟩)
    (fun _ u hu => by subst hu; rw [setK_same]; simp only [e, ChR, Gh.set_h, Gh.set_F]; exact hrow)
  refine hK _ _ _ I _ _ h (hR'.put hdn (e := .one ⟨.al [d0 + 2000000] ((σ.k [d0 + 2000000]).idv + 1), .sl es, .l []⟩) ⟨⟨fun _ h => (nomatch h), fun _ h => (nomatch h)⟩, trivial, ?_, fun _ => ?_⟩) (fun _ _ h => h) (hk.weaken fun _ _ _ => trivial)
  · rw [setK_same]; exact Nat.le_refl _
  · rw [Gh.set_h]
theorem end_row {d0 : Nat} {c : Array Value} {el : TypeId} {fz : Nat × Nat} {es : List LT} {ms : List M} {rows : List (List T)} {b cap : Nat} (hdst : o.dst = some d0) (hd : dstOk n.np n.nt o = true) (hR : R n σ g I a w) (hK : Post P n I w Q K)
    (hk : Keeps (fun _ _ => True) w w') (hb : w.heap.size ≤ b) (hblk : Block w' b c el fz) (hfz : ∀ o', o' ≤ c.size → ¬ (fz.1 ≤ o' ∧ o' < fz.2))
    (hrun : (execOp a.eval o).run P w = .ok (.value (.slice (some ⟨b, 0, none⟩) rows.length cap)) w') (hes : es ≠ []) (h1 : rows.length ≤ maxCells) (h2 : rows.length ≤ cap) (h3 : True)
    (h4 : c.size = cap * es.length) (hm : noO ms) (hrows : RowsV w I es rows c.toList) (h : (mkRow d0 es ms rows).wp cf σ tr Q) : Goal P o a w K Qm :=
  end_rowM (cf := cf) (p := .ret) hdst hd hR hK hk hb hblk hfz hrun hes h1 h2 h4 (bs := []) trivial (Lim.none.sub fun b o h => (nomatch h.1)) (hrows.toM hm) h

theorem zero_lfs {κ : Key → KE} : ∀ {lts : List LT} {vs : List Value}, zeroVs lts vs → LfsR κ g w I (lts.map zeroLeaf) vs
  | [], [], _ => trivial
  | lt :: lts, v :: vs, h => by
    refine ⟨?_, zero_lfs h.2⟩
    have h1 := h.1
    cases lt with
    | sl es => cases h1; exact ⟨⟨fun _ h => (nomatch h), fun _ h => (nomatch h)⟩, trivial, rfl, rfl⟩
    | sc s =>
      cases s with
      | int k => cases h1; exact ⟨⟨fun _ h => (nomatch h), fun _ h => (nomatch h)⟩, .int k, rfl, 0, rfl, rfl, kmin_neg k⟩
      | bool => cases h1; exact ⟨⟨fun _ h => (nomatch h), fun _ h => (nomatch h)⟩, .bool, rfl, false, rfl, rfl⟩
      | str => cases h1; exact ⟨⟨fun _ h => (nomatch h), fun _ h => (nomatch h)⟩, .str, rfl, .empty, rfl, rfl, by decide⟩
      | any => exact ⟨h1, trivial⟩
  | [], _ :: _, h => h.elim
  | _ :: _, [], h => h.elim
theorem zero_leaves : ∀ {lts : List LT} {vs : List Value}, zeroVs lts vs → lts.all (fun l => match l with | .sc .any => false | _ => true) = true → LeavesR w I lts vs (lts.map zeroD)
  | [], [], _, _ => trivial
  | lt :: lts, v :: vs, h, ha => by
    simp only [List.all_cons, Bool.and_eq_true] at ha
    refine ⟨?_, zero_leaves h.2 ha.2⟩
    have h1 := h.1
    unfold LeafR
    cases lt with
    | sl es => cases h1; exact ⟨none, 0, [], rfl, rfl, Nat.le_refl _, Nat.zero_le _, .inl rfl⟩
    | sc s =>
      cases s with
      | int k => cases h1; exact ⟨0, rfl, rfl, kmin_neg k⟩
      | bool => cases h1; exact ⟨false, rfl, rfl⟩
      | str => cases h1; exact ⟨.empty, rfl, rfl, by decide⟩
      | any => simp at ha
  | [], _ :: _, h, _ => h.elim
  | _ :: _, [], h, _ => h.elim
theorem run_zeroValue {t : TypeId} {ti : TI} (h : TyOk Γ P t ti) : ∃ z, (zeroValue t).run P w = .ok z w ∧ zeroVs ti.lts z.cells.toList := by
  obtain ⟨i, h1, -, -, -, -, z, hz, h2⟩ := h.info
  exact ⟨z, by simp [zeroValue, typeInfo, h1, hz, go_sem], h2⟩

theorem entCells {κ : Key → KE} {e : Ent} {v : Value} {ls : List Leaf} (he : EntR κ g w I e v) (h : leavesOf e = some ls) : LfsR κ g w I ls v.cells.toList := by
  cases e with
  | one l =>
    cases h
    have h1 : LfR κ g w I l v := he
    rw [h1.1.cells]
    exact ⟨h1, trivial⟩
  | agg ls' =>
    cases h
    obtain ⟨cs, rfl, h1⟩ := he
    exact h1
  | _ => cases h
end
end Go.E

