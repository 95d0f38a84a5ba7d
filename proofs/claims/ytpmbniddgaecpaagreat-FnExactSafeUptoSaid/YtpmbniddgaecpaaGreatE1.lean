/- A part of the proof: texts ECore, EMin, ERel, EBase, EOps1, EOps2, EOps3, EOps4, EOwn, EOps5, EOps6, EOps7, EOps8, EMem, EOps9, EOps10: see the last part's opening words. -/
import Derived.Orders
import Derived.Tactics
import Derived.Laws.StructEq
import Derived.Laws.BytesString
set_option linter.unusedVariables false
set_option linter.unusedSimpArgs false
set_option linter.unnecessarySimpa false
namespace Go.E
inductive ST where
 | int (k:IntKind) | bool | str | any
 deriving DecidableEq,Repr,Inhabited
inductive LT where
 | sc (s:ST) | sl (es:List LT)
 deriving Repr,Inhabited
inductive T where
 | i (n:Int) | b (x:Bool) | s (x:ByteArray) | l (rows:List (List T)) | x (v:Value)
 deriving Inhabited
def T.int:T->Int | .i n=>n | _=>0
def T.bool:T->Bool | .b y=>y | _=>false
def T.str:T->ByteArray | .s y=>y | _=>.empty
def T.rows:T->List (List T) | .l r=>r | _=>[]
mutual
def LT.beq:LT->LT->Bool
 | .sc a,.sc b=>decide (a=b)
 | .sl a,.sl b=>LT.dO a b
 | _,_=>false
def LT.dO:List LT->List LT->Bool
 | [],[]=>true
 | a::as,b::bs=>LT.beq a b&&LT.dO as bs
 | _,_=>false
end
abbrev Key:=List Nat
def dD:Key->Key->Bool
 | [],[]=>true
 | a::as,b::bs=>Nat.beq a b&&dD as bs
 | _,_=>false
def sP:Key:=[4000000]
inductive M where
 | F | O (ms:List M)
 deriving Inhabited,Repr
mutual
def M.beq:M->M->Bool
 | .F,.F=>true
 | .O a,.O b=>M.dO a b
 | _,_=>false
def M.dO:List M->List M->Bool
 | [],[]=>true
 | a::az,b::bs=>M.beq a b&&M.dO az bs
 | _,_=>false
end
mutual
def M.SI:M->M->Bool
 | _,.F=>true
 | .O a,.O b=>M.uP a b
 | .F,.O _=>false
def M.uP:List M->List M->Bool
 | [],[]=>true
 | a::az,b::bs=>M.SI a b&&M.uP az bs
 | _,_=>false
end
abbrev ED:=Key×Nat
inductive St where
 | sc | nl | sn (deps:List ED) | sb (k:Key) (n cv r off:Nat) | al (k:Key) (n:Nat) | dead
 deriving Inhabited,Repr
structure Leaf where
 st:St
 lt:LT
 d:T
 deriving Inhabited
inductive eU where
 | one (l:Leaf) | agg (ls:List Leaf) | SK (es:List eU)
 | ptr (k:Key) (n i off:Nat)
 | rp (deps:List ED) (aR:List LT) (row:List T)
 | fn (f:FuncId) (caps:List eU)
 | und | junk
 deriving Inhabited
inductive Ch where
 | box (ls:List Leaf) | row (es:List LT) (ms:List M) (rows:List (List T)) | fz (es:List LT) (rows:List (List T)) | gone
 | Hz (m j:Nat) (ls:List Leaf)
 | hol (es:List LT) (ms:List M) (rows:List (List T)) (r j:Nat)
 deriving Inhabited
structure KE where
 ch:Ch
 bM:Nat
 cv:Nat
 deriving Inhabited
structure S where
 s:Nat->eU
 k:Key->KE
inductive R3 (α:Type) where
 | ok (a:α) | out | bad
 deriving Inhabited
inductive AL where
 | sc (s:ST) (d:T) | fz (es:List LT) (rows:List (List T)) | own (es:List LT) (ms:List M) (rows:List (List T)) | nl (es:List LT)
 | dz (es:List LT) (rows:List (List T))
 deriving Inhabited
inductive Arg where
 | one (l:AL) | agg (ls:List AL)
 | Kw (aR:List LT) (row:List T)
 | bx (ls:List AL)
 | fn (f:FuncId) (caps:List Arg)
 deriving Inhabited
inductive RL where
 | sc (s:ST) (d:T) | fz (es:List LT) (rows:List (List T)) | own (k:Key) (es:List LT) (ms:List M) (rows:List (List T)) | nl (es:List LT)
 | par (i j:Nat) | dz (es:List LT) (rows:List (List T))
 deriving Inhabited
inductive RE where
 | one (l:RL) | agg (ls:List RL)
 | bx (k:Key) (ls:List RL)
 | none
 deriving Inhabited
structure fZ where
 rs:List RE
 owns:List (List (Option (List LT×List M×List (List T))))
 bxs:List (Option (List RL))
 deriving Inhabited
inductive Prog where
 | ret | fail | out
 | fU (c:Bool) (p:Prog)
 | lim (c:Bool) (p:Prog)
 | br (c:Bool) (p q:Prog)
 | Cq (t:Nat) (k:eU->Prog)
 | kJ (t:Nat) (e:eU) (p:Prog)
 | eY (k:Key) (c:KE->Prog)
 | bE (k:Key) (e:KE) (p:Prog)
 | call (f:FuncId) (args:List Arg) (k:fZ->Prog)
structure Tr where
 rs:List Nat:=[]
 ws:List Nat:=[]
 rk:List Key:=[]
 wk:List Key:=[]
 deriving Inhabited
def S.kJ (σ:S) (t:Nat) (e:eU):S:={ σ with s:=fun u=>cond (Nat.beq u t) e (σ.s u) }
def S.bE (σ:S) (k:Key) (e:KE):S:={ σ with k:=fun u=>cond (dD u k) e (σ.k u) }
def R3.bind {α β:Type} (r:R3 α) (k:α->R3 β):R3 β:=match r with | .ok a=>k a | _=>.bad
variable (cf:FuncId->List Arg->R3 fZ)
def Prog.run {α:Type} : Prog->S->Tr->(S->Tr->R3 α)->R3 α
 | .ret,σ,tr,K=>K σ tr
 | .fail,_,_,_=>.bad
 | .out,_,_,_=>.bad
 | .fU c p,σ,tr,K=>cond c (p.run σ tr K) .bad
 | .lim _ p,σ,tr,K=>p.run σ tr K
 | .br c p q,σ,tr,K=>cond c (p.run σ tr K) (q.run σ tr K)
 | .Cq t k,σ,tr,K=>(k (σ.s t)).run σ { tr with rs:=t::tr.rs } K
 | .kJ t e p,σ,tr,K=>p.run (σ.kJ t e) { tr with ws:=t::tr.ws } K
 | .eY k c,σ,tr,K=>(c (σ.k k)).run σ { tr with rk:=k::tr.rk } K
 | .bE k e p,σ,tr,K=>p.run (σ.bE k e) { tr with wk:=k::tr.wk } K
 | .call f args k,σ,tr,K=>(cf f args).bind fun r=>(k r).run σ tr K
inductive TK where
 | sc (s:ST) | slice (elem:TypeId) | struct (fs:List (Nat×TypeId)) | array (n:Nat) (elem:TypeId) | ptr (elem:TypeId) | other
 deriving Inhabited
structure TI where
 kind:TK
 aR:List LT
 bytes:Nat
 flat:Bool
 deriving Inhabited
inductive PM where
 | R | F | O (ms:List M)
 deriving Inhabited,Repr
structure Sig where
 pms:List (List PM)
 deriving Inhabited
structure Ctx where
 ty:TypeId->Option TI
 fn:FuncId->Option Func
 sig:FuncId->Sig
 own:FuncId->Nat->Bool
 ms:FuncId->Nat->List M
 cut:FuncId->Nat->Nat
 cast:FuncId->Nat->List M
 box:FuncId->Nat->List M
 rg:FuncId->Nat->List (Nat×Nat)
 ret:FuncId->Bool
 can:FuncId->Nat->List M
def GA:LT->T
 | .sc (.int _)=>.i 0 | .sc .bool=>.b false | .sc .str=>.s .empty | .sc .any=>.x .nilIface | .sl _=>.l []
def MO:LT->Leaf
 | .sl es=>⟨.nl,.sl es,.l []⟩
 | .sc .any=>⟨.dead,.sc .any,.l []⟩
 | lt=>⟨.sc,lt,GA lt⟩
def xZ:Value->Option Leaf
 | .bool b=>some ⟨.sc,.sc .bool,.b b⟩
 | .int k n=>if k.min<=n/\n<=k.max then some ⟨.sc,.sc (.int k),.i n⟩ else none
 | .string s=>if s.size<9223372036854775808 then some ⟨.sc,.sc .str,.s s⟩ else none
 | .slice none 0 0=>some ⟨.nl,.sl [],.l []⟩
 | _=>none
def dflt:T:=.i 0
def adk (deps:List ED) (lt:LT) (d:T):Leaf :=
 match lt with
 | .sl _=>⟨.sn deps,lt,d⟩
 | _=>⟨.sc,lt,d⟩
def zm:TK->Bool
 | .struct _ | .array _ _=>true
 | _=>false
def HV (agg:Bool) (ls:List Leaf):eU :=
 cond agg (.agg ls) (match ls with | [l]=>.one l | _=>.junk)
def DY:eU->Option (List Leaf)
 | .one l=>some [l]
 | .agg ls=>some ls
 | _=>none
section ops
variable (Γ:Ctx)
def oF {α:Type} (o:Option α) (k:α->Prog):Prog:=match o with | some a=>k a | none=>.fail
def uI (t:TypeId) (k:TI->Prog):Prog:=oF (Γ.ty t) k
def rd (x:Operand) (k:eU->Prog):Prog :=
 match x with
 | .tmp t=>.Cq t k
 | .const (.pointer none)=>k .junk
 | .const (.agg cs)=>oF (cs.toList.mapM xZ) fun ls=>k (.agg ls)
 | .const v=>oF (xZ v) fun l=>k (.one l)
 | .func f=>k (.fn f [])
 | .global _=>.fail
def Cr (ds:List ED) (p:Prog):Prog :=
 match ds with
 | []=>p
 | (k,n)::ds=>.eY k fun ke=>.fU (Nat.beq ke.cv n) (Cr ds p)
def wW (l:Leaf) (k:List LT->List (List T)->List ED->Prog):Prog :=
 match l.lt,l.st with
 | .sl es,.nl=>k es [] []
 | .sl es,.sn deps=>Cr deps (k es l.d.rows deps)
 | .sl es,.sb key _ cv _ _=>Cr [(key,cv)] (k es l.d.rows [(key,cv)])
 | .sl _,.al key n=>.eY key fun ke=>.fU (Nat.beq ke.bM n) (match ke.ch with
   | .row es _ rows=>k es rows [(key,ke.cv)]
   | .fz es rows=>k es rows []
   | _=>.fail)
 | _,_=>.fail
def uQ (e:eU) (k:ST->T->Prog):Prog :=
 match e with
 | .one ⟨.sc,.sc s,d⟩=>k s d
 | _=>.fail
def Y6 (e:eU) (k:Leaf->Prog):Prog:=match e with | .one l=>k l | _=>.fail
def SL (ms:List M):Bool:=ms.all fun m=>match m with | .F=>true | .O _=>false
def wX:List LT->List M->List Leaf->(List T->Prog)->Prog
 | [],_,[],k=>k []
 | e::es,ms,l::ls,k =>
  match e,l.lt,l.st with
  | .sc s,.sc s',.sc=>if s=s' then wX es ms.tail ls fun ds=>k (l.d::ds) else .fail
  | .sl es',_,.nl=>.fU (match ms.headD .F with | .F=>true | .O _=>!es'.isEmpty) (wX es ms.tail ls fun ds=>k (.l []::ds))
  | .sl _,lt,.sn []=>(match ms.headD .F with
    | .F=>cond (LT.beq e lt) (wX es ms.tail ls fun ds=>k (l.d::ds)) .fail
    | .O _=>.fail)
  | .sl es',_,.al key n=>.eY key fun ke=>.fU (Nat.beq ke.bM n) (match ke.ch with
    | .fz es'' rows=>(match ms.headD .F with
      | .F=>cond (LT.dO es' es'') (wX es ms.tail ls fun ds=>k (.l rows::ds)) .fail
      | .O _=>.fail)
    | .row es'' ak7 rows=>(match ms.headD .F with
      | .F=>cond (LT.dO es' es'') (.bE key { ke with ch:=.fz es'' rows } (wX es ms.tail ls fun ds=>k (.l rows::ds))) .fail
      | .O ms'=>cond (LT.dO es' es''&&M.dO ms' ak7) (.bE key ⟨.gone,ke.bM+1,ke.cv+1⟩ (wX es ms.tail ls fun ds=>k (.l rows::ds))) .fail)
    | _=>.fail)
  | _,_,_=>.fail
 | _,_,_,_=>.fail
def MP (dst:Nat) (es:List LT) (ms:List M) (rows:List (List T)):Prog :=
 .eY [dst+2000000] fun ke=>.bE [dst+2000000] ⟨.row es ms rows,ke.bM+1,ke.cv+1⟩ (.kJ dst (.one ⟨.al [dst+2000000] (ke.bM+1),.sl es,.l []⟩) .ret)
def Y7 (key:Key) (k:Prog):Prog:=.eY key fun ke=>match ke.ch with
 | .row es _ rows=>.bE key { ke with ch:=.fz es rows } k
 | _=>.fail
def ak8 (fz:Bool) (dst:Nat) (es:List LT) (ms:List M) (rows:List (List T)):Prog :=
 .eY [dst+2000000] fun ke=>.bE [dst+2000000] ⟨.row es ms rows,ke.bM+1,ke.cv+1⟩ (.kJ dst (.one ⟨.al [dst+2000000] (ke.bM+1),.sl es,.l []⟩) (cond fz (Y7 [dst+2000000] .ret) .ret))
def ag2 (dst:Nat) (ls:List Leaf):Prog :=
 .eY [dst+2000000] fun ke=>.bE [dst+2000000] ⟨.box ls,ke.bM+1,ke.cv+1⟩ (.kJ dst (.ptr [dst+2000000] (ke.bM+1) 0 0) .ret)
def MQ (key:Key) (n cv r off:Nat) (lt:LT) (m:M) (d:T):Leaf :=
 match lt,m with
 | .sl _,.O _=>⟨.sb key n cv r off,lt,d⟩
 | .sl _,_=>⟨.sn [],lt,d⟩
 | _,_=>⟨.sc,lt,d⟩
def O4 (key:Key) (n cv r off size:Nat) (es:List LT) (ms:List M) (row:List T):List Leaf :=
 (List.range size).map fun j=>MQ key n cv r (off+j) (es.getD (off+j) default) (ms.getD (off+j) .F) (row.getD (off+j) dflt)
def MR (deps:List ED) (size:Nat) (es:List LT) (row:List T):List Leaf :=
 (List.range size).map fun j=>adk deps (es.getD j default) (row.getD j dflt)
def setMany (row:List T) (off:Nat):List T->List T
 | []=>row
 | d::ds=>setMany (row.set off d) (off+1) ds
def gL (s:ByteArray):List (List T):=s.data.toList.map fun b=>[T.i b.toNat]
def qd (rows:List (List T)):ByteArray:=⟨(rows.map fun r=>UInt8.ofNat (r.getD 0 dflt).int.toNat).toArray⟩
def uR (k:IntKind) (r:BitVec k.bits):T:=.i (k.wrap r.toNat)
def adl (op:BinOp) (k:IntKind) (x y:Int) (K:ST->T->Prog):Prog :=
 match op with
 | .add=>K (.int k) (.i (k.wrap (x+y)))
 | .sub=>K (.int k) (.i (k.wrap (x-y)))
 | .mul=>K (.int k) (.i (k.wrap (x * y)))
 | .quo=>.fU (!decide (y=0)) (K (.int k) (.i (k.wrap (x.tdiv y))))
 | .rem=>.fU (!decide (y=0)) (K (.int k) (.i (x.tmod y)))
 | .and=>K (.int k) (uR k (BitVec.ofInt k.bits x &&& BitVec.ofInt k.bits y))
 | .or=>K (.int k) (uR k (BitVec.ofInt k.bits x ||| BitVec.ofInt k.bits y))
 | .xor=>K (.int k) (uR k (BitVec.ofInt k.bits x ^^^ BitVec.ofInt k.bits y))
 | .andNot=>K (.int k) (uR k (BitVec.ofInt k.bits x &&& ~~~ BitVec.ofInt k.bits y))
 | .eql=>K .bool (.b (x==y))
 | .neq=>K .bool (.b (x != y))
 | .lss=>K .bool (.b (decide (x<y)))
 | .leq=>K .bool (.b (decide (x<=y)))
 | .gtr=>K .bool (.b (decide (x > y)))
 | .geq=>K .bool (.b (decide (x>=y)))
 | _=>.fail
def adn (op:BinOp) (x y:ByteArray) (K:ST->T->Prog):Prog :=
 let eq:=x.toList==y.toList
 let lt:=Op.bytesLess x.toList y.toList
 match op with
 | .add=>.fU (decide (x.size+y.size<9223372036854775808)) (K .str (.s (x++y)))
 | .eql=>K .bool (.b eq)
 | .neq=>K .bool (.b (!eq))
 | .lss=>K .bool (.b lt)
 | .leq=>K .bool (.b (lt||eq))
 | .gtr=>K .bool (.b (!(lt||eq)))
 | .geq=>K .bool (.b (!lt))
 | _=>.fail
def ag3:ST->T->T->Option Bool
 | .int _,x,y=>some (x.int==y.int)
 | .bool,x,y=>some (x.bool==y.bool)
 | .str,x,y=>some (x.str.toList==y.str.toList)
 | .any,_,_=>none
def zn:List LT->List Leaf->List Leaf->Option Bool
 | [],[],[]=>some true
 | .sc c::aR,⟨.sc,.sc a,x⟩::ls,⟨.sc,.sc b,y⟩::rs =>
  if c=a/\c=b then
   match ag3 c x y,zn aR ls rs with
   | some b,some r=>some (b&&r)
   | _,_=>none
  else none
 | _,_,_=>none
def Y8:TK->Bool | .sc .bool=>true | _=>false
def amF (ti:TI) (op:BinOp) (x y:eU) (K:ST->T->Prog):Prog :=
 match x,y with
 | .one ⟨.sc,.sc (.int k),a⟩,.one ⟨.sc,.sc (.int k'),b⟩ =>
  match op with
  | .shl=>.fU (decide (0<=b.int)) (K (.int k) (.i (k.wrap (a.int * 2 ^ (min b.int.toNat k.bits)))))
  | .shr=>.fU (decide (0<=b.int)) (K (.int k) (.i (a.int.fdiv (2 ^ (min b.int.toNat k.bits)))))
  | _=>if k=k' then adl op k a.int b.int K else .fail
 | .one ⟨.sc,.sc .str,a⟩,.one ⟨.sc,.sc .str,b⟩=>adn op a.str b.str K
 | .one ⟨.sc,.sc .bool,a⟩,.one ⟨.sc,.sc .bool,b⟩ =>
  cond (Y8 ti.kind) (match op with
  | .eql=>K .bool (.b (a.bool==b.bool))
  | .neq=>K .bool (.b (!(a.bool==b.bool)))
  | _=>.fail) .fail
 | .agg ls,.agg rs =>
  cond ti.flat (match op with
  | .eql=>oF (zn ti.aR ls rs) fun r=>K .bool (.b r)
  | .neq=>oF (zn ti.aR ls rs) fun r=>K .bool (.b (!r))
  | _=>.fail) .fail
 | _,_=>.fail
def put (dst:Option Nat) (e:eU):Prog:=match dst with | some d=>.kJ d e .ret | none=>.ret
def afE:List LT->List M->Bool
 | [],_=>true
 | e::es,ms=>(match e,ms.headD .F with | .sl es',.O _=>!es'.isEmpty | _,_=>true)&&afE es ms.tail
def J3 (ms:Nat->List M) (d:Nat) (es:List LT):List M:=match ms d with | []=>es.map fun _=>.F | l=>l
def ag4 (own:Nat->Bool) (ms:Nat->List M) (dst:Option Nat) (e:eU):Prog :=
 match dst,e with
 | some d0,.one ⟨.nl,.sl es,_⟩=>cond (own d0 && !es.isEmpty) (MP d0 es (J3 ms d0 es) []) (put dst e)
 | _,_=>put dst e
def oU (dst:Option Nat) (s:ST) (d:T):Prog:=put dst (.one ⟨.sc,.sc s,d⟩)
def aK:Nat:=140737488355328
def aS:Nat:=1099511627776
def wY (es:List LT):Bool:=es.all fun t=>match t with | .sc _=>true | _=>false
def uL:Nat:=999999
structure wh where
 key:Key
 bM:Nat
 es:List LT
 i:Nat
 j:Nat
structure Pass where
 args:List Arg
 fB:List wh
 deps:List ED
def wm (i j:Nat) (m:PM) (l:Leaf) (c:Pass) (k:AL->Pass->Prog):Prog :=
 match l.lt,l.st with
 | .sc s,.sc=>k (.sc s l.d) c
 | .sl es,.nl=>(match m with
  | .R=>k (.dz es []) c
  | .F=>k (.fz es []) c
  | .O _=>k (.nl es) c)
 | .sl es,.sn deps=>(match m with
  | .R=>Cr deps (k (.dz es l.d.rows) { c with deps:=deps++c.deps })
  | .F=>(match deps with | []=>k (.fz es l.d.rows) c | _=>.fail)
  | .O _=>.fail)
 | .sl es,.sb key _ cv _ _=>(match m with
  | .R=>Cr [(key,cv)] (k (.dz es l.d.rows) { c with deps:=(key,cv)::c.deps })
  | _=>.fail)
 | .sl es0,.al key n=>.eY key fun ke=>.fU (Nat.beq ke.bM n) (match ke.ch,m with
  | .fz es rows,.R=>.fU (LT.dO es0 es) (k (.dz es rows) c)
  | .fz es rows,.F=>.fU (LT.dO es0 es) (k (.fz es rows) c)
  | .row es _ rows,.R=>.fU (LT.dO es0 es) (k (.dz es rows) { c with deps:=(key,ke.cv)::c.deps })
  | .row es ms rows,.O _=>.fU (LT.dO es0 es&&Nat.blt j uL) (k (.own es ms rows) { c with fB:=⟨key,n,es,i,j⟩::c.fB })
  | _,_=>.fail)
 | _,_=>.fail
def L6 (i:Nat):Nat->List PM->List Leaf->Pass->(List AL->Pass->Prog)->Prog
 | _,_,[],c,k=>k [] c
 | j,ms,l::ls,c,k=>wm i j (ms.headD .R) l c fun a c=>L6 i (j+1) (ms.drop 1) ls c fun as c=>k (a::as) c
def zo:List Leaf->Pass->(List LT->List T->Pass->Prog)->Prog
 | [],c,k=>k [] [] c
 | l::ls,c,k =>
  match l.lt,l.st with
  | .sc s,.sc=>zo ls c fun aR ds c=>k (.sc s::aR) (l.d::ds) c
  | _,_=>wW l fun es rows deps=>zo ls { c with deps:=deps++c.deps } fun aR ds c=>k (.sl es::aR) (.l rows::ds) c
def MS (sz:Option Nat) (e:eU) (c:Pass) (k:Arg->Pass->Prog):Prog :=
 let ado {α:Type} (l:List α):List α:=match sz with | some n=>l.take n | none=>l
 match e with
 | .ptr key n r off=>.eY key fun ke=>.fU (Nat.beq ke.bM n) (match ke.ch with
  | .box ls=>zo (ado (ls.drop off)) { c with deps:=(key,ke.cv)::c.deps } fun aR ds c=>k (.Kw aR ds) c
  | .row es _ rows=>.fU (decide (r<rows.length)) (k (.Kw (ado (es.drop off)) (ado ((rows.getD r []).drop off))) { c with deps:=(key,ke.cv)::c.deps })
  | .fz es rows=>.fU (decide (r<rows.length)) (k (.Kw (ado (es.drop off)) (ado ((rows.getD r []).drop off))) c)
  | _=>.fail)
 | .rp deps aR row=>Cr deps (k (.Kw (ado aR) (ado row)) { c with deps:=deps++c.deps })
 | _=>.fail
def iy (key:Key):Key:=3000000::key
def nH (key:Key) (j:Nat):Key:=3000001::j::key
def nI (key:Key):Key:=3000002::key
def ru (key:Key):Nat->List LT->List M->List T->(List Leaf->Prog)->Prog
 | _,[],_,_,k=>k []
 | j,e::es,ms,ds,k =>
  let d:=ds.headD dflt
  match e,ms.headD .F with
  | .sl es',.O ms'=>.eY (nH key j) fun ke=>.bE (nH key j) ⟨.row es' ms' d.rows,ke.bM+1,ke.cv+1⟩
    (ru key (j+1) es ms.tail ds.tail fun ls=>k (⟨.al (nH key j) (ke.bM+1),.sl es',.l []⟩::ls))
  | .sl es',.F=>ru key (j+1) es ms.tail ds.tail fun ls=>k (⟨.sn [],.sl es',d⟩::ls)
  | .sc s,_=>ru key (j+1) es ms.tail ds.tail fun ls=>k (⟨.sc,.sc s,d⟩::ls)
def MU (key:Key) (r:Nat) (k:Nat->List Leaf->Prog):Prog :=
 .eY key fun ke=>match ke.ch with
  | .row es ms rows=>.fU (decide (r<rows.length)) (.eY (iy key) fun kb=>.bE key ⟨.hol es ms rows r (kb.bM+1),ke.bM,ke.cv+1⟩ (ru key 0 es ms (rows.getD r []) fun ls =>
    .bE (iy key) ⟨.box ls,kb.bM+1,kb.cv+1⟩ (k (kb.bM+1) ls)))
  | _=>.fail
def aa3 (key:Key) (es0:List LT) (ms0:List M) (ds:List T) (p:Prog):Prog :=
 .eY key fun ke=>.eY (iy key) fun kb=>match ke.ch,kb.ch with
  | .hol es ms rows r j,.box ls=>.fU (Nat.beq kb.bM j&&Nat.beq ls.length es.length&&LT.dO es0 es&&M.dO ms0 ms) (.bE (iy key) ⟨.gone,kb.bM+1,kb.cv+1⟩ (.bE key ⟨.row es ms (rows.set r ds),ke.bM,ke.cv+1⟩ p))
  | _,_=>.fail
def MV (key:Key) (p:Prog):Prog :=
 .eY key fun ke=>.eY (iy key) fun kb=>match ke.ch,kb.ch with
  | .hol es ms _ _ j,.box ls=>.fU (Nat.beq kb.bM j) (wX es ms ls fun ds=>aa3 key es ms ds p)
  | _,_=>.fail
def Y9 (key:Key) (m:Nat) (k:Nat->Prog):Prog :=
 .eY key fun ke=>match ke.ch with
  | .box ls=>.fU (Nat.ble m ls.length) (.eY (nI key) fun kb=>.bE key ⟨.Hz m (kb.bM+1) (ls.drop m),ke.bM,ke.cv+1⟩ (.bE (nI key) ⟨.box (ls.take m),kb.bM+1,kb.cv+1⟩ (k (kb.bM+1))))
  | _=>.fail
def SN (key:Key) (p:Prog):Prog :=
 .eY key fun ke=>.eY (nI key) fun kb=>match ke.ch,kb.ch with
  | .Hz m j rest,.box ls=>.fU (Nat.beq ls.length m&&Nat.beq kb.bM j) (.bE (nI key) ⟨.gone,kb.bM+1,kb.cv+1⟩ (.bE key ⟨.box (ls++rest),ke.bM,ke.cv+1⟩ p))
  | _,_=>.fail
def closeAll:List (Bool×Key)->Prog->Prog
 | [],p=>p
 | (b,k)::os,p=>cond b (MV k (closeAll os p)) (SN k (closeAll os p))
def wo (nk:Key) (m:PM) (l:Leaf) (os:List (Bool×Key)) (k:Leaf->List (Bool×Key)->Prog):Prog :=
 match m with
 | .R=>k l os
 | .F=>(match l.st with
  | .al key n=>.eY key fun ke=>.fU (Nat.beq ke.bM n) (match ke.ch with
   | .row es _ rows=>.bE key { ke with ch:=.fz es rows } (k ⟨.sn [],.sl es,.l rows⟩ os)
   | .fz es rows=>k ⟨.sn [],.sl es,.l rows⟩ os
   | _=>.fail)
  | _=>k l os)
 | .O ms=>(match l.st with
  | .nl=>(match ms,l.lt with
   | [],_=>k l os
   | ms,.sl es=>.fU (!es.isEmpty) (.eY nk fun ke=>.bE nk ⟨.row es ms [],ke.bM+1,ke.cv+1⟩ (k ⟨.al nk (ke.bM+1),.sl es,.l []⟩ os))
   | _,_=>.fail)
  | .sb key n cv r off=>.eY key fun ke=>.fU (Nat.beq ke.bM n&&Nat.beq ke.cv cv) (MU key r fun _ ls=>.fU (Nat.blt off ls.length) (k (ls.getD off default) ((true,key)::os)))
  | .al key n=>(match ms with
   | []=>k l os
   | ms=>.eY key fun ke=>.fU (Nat.beq ke.bM n) (match ke.ch with
    | .row es ms0 rows=>cond (M.dO ms0 ms) (k l os) (.fU (M.uP ms0 ms) (.bE key ⟨.row es ms rows,ke.bM,ke.cv+1⟩ (k l os)))
    | _=>k l os))
  | _=>k l os)
def pq (nk:Key):Nat->List PM->List Leaf->List (Bool×Key)->(List Leaf->List (Bool×Key)->Prog)->Prog
 | _,_,[],os,k=>k [] os
 | j,ms,l::ls,os,k=>wo (5000000::j::nk) (ms.headD .R) l os fun l os=>pq nk (j+1) (ms.drop 1) ls os fun ls os=>k (l::ls) os
def isO:PM->Bool | .O _=>true | _=>false
def amG (pm:List PM):Bool:=pm.any isO
def needs:List PM->List Leaf->Bool
 | m::pm,l::ls=>(match m,l.st with
  | .O (_::_),.nl=>true
  | .O (_::_),.al _ _=>true
  | .F,.al _ _=>true
  | _,_=>false)||needs pm ls
 | _,_=>false
def MW (key:Key) (n:Nat) (pm:List PM) (os:List (Bool×Key)) (k:List (Bool×Key)->Prog):Prog :=
 .eY key fun ke=>.fU (Nat.beq ke.bM n) <| match ke.ch with
  | .box ls=>cond (needs pm ls) (pq key 0 pm ls os fun ls' os=>.eY key fun ke=>.fU (Nat.beq ke.bM n) (match ke.ch with
   | .box ls0=>.fU (Nat.beq ls'.length ls0.length) (.bE key ⟨.box ls',ke.bM,ke.cv+1⟩ (k os))
   | _=>.fail)) (k os)
  | _=>k os
def MX (nk:Key) (pm:List PM) (e:eU) (os:List (Bool×Key)) (k:eU->List (Bool×Key)->Prog):Prog :=
 match e with
 | .one l=>wo nk (pm.headD .R) l os fun l os=>k (.one l) os
 | .agg ls=>pq nk 0 pm ls os fun ls os=>k (.agg ls) os
 | .ptr key n r off=>cond (amG pm) (.eY key fun ke=>.fU (Nat.beq ke.bM n&&Nat.beq off 0) (match ke.ch with
   | .box ls=>cond (Nat.blt pm.length ls.length) (Y9 key pm.length fun m=>MW (nI key) m pm ((false,key)::os) (k (.ptr (nI key) m 0 0)))
     (MW key n pm os (k e))
   | .row es _ _=>.fU (Nat.beq pm.length es.length) (MU key r fun m _=>MW (iy key) m pm ((true,key)::os) (k (.ptr (iy key) m 0 0)))
   | _=>.fail)) (k e os)
 | e=>k e os
def R8 (d:Nat):Nat->List (List PM)->List eU->List (Bool×Key)->(List eU->List (Bool×Key)->Prog)->Prog
 | _,_,[],os,k=>k [] os
 | i,pms,e::es,os,k=>MX [d+2000000,700+i] (pms.headD []) e os fun e os=>R8 d (i+1) (pms.drop 1) es os fun es os=>k (e::es) os
def O5 (i j:Nat) (l:Leaf) (c:Pass) (k:AL->Pass->Prog):Prog :=
 match l.lt,l.st with
 | .sl _,.al key _=>.eY key fun ke=>match ke.ch with
  | .row _ _ _=>wm i j (.O []) l c k
  | _=>wm i j .F l c k
 | .sl _,.nl=>wm i j (.O []) l c k
 | _,_=>wm i j .F l c k
def HY (i:Nat):Nat->List Leaf->Pass->(List AL->Pass->Prog)->Prog
 | _,[],c,k=>k [] c
 | j,l::ls,c,k=>O5 i j l c fun a c=>HY i (j+1) ls c fun as c=>k (a::as) c
def Za (i sz:Nat) (e:eU) (c:Pass) (k:Arg->Pass->Prog):Prog :=
 match e with
 | .ptr key n _ off=>.eY key fun ke=>.fU (Nat.beq ke.bM n) (match ke.ch with
  | .box ls=>.fU (Nat.beq off 0&&Nat.beq ls.length sz&&Nat.ble sz 1000) (HY i 0 ls { c with fB:=⟨key,n,[],i,uL⟩::c.fB } fun as c=>k (.bx as) c)
  | _=>.fail)
 | _=>.fail
def SQ:List eU->Pass->(List Arg->Pass->Prog)->Prog
 | [],c,k=>k [] c
 | e::es,c,k=>MS none e c fun a c=>SQ es c fun as c=>k (a::as) c
def Zb (i:Nat) (pm:List PM) (e:eU) (c:Pass) (k:Arg->Pass->Prog):Prog :=
 match e with
 | .one l=>wm i 0 (pm.headD .R) l c fun a c=>k (.one a) c
 | .agg ls=>L6 i 0 pm ls c fun as c=>k (.agg as) c
 | .fn f caps=>SQ caps c fun as c=>k (.fn f as) c
 | e=>cond (amG pm) (Za i pm.length e c k) (MS (cond pm.isEmpty none (some pm.length)) e c k)
def Zc (pms:List (List PM)):Nat->List eU->Pass->(List Arg->Pass->Prog)->Prog
 | _,[],c,k=>k [] c
 | i,e::es,c,k=>Zb i (pms.getD i []) e c fun a c=>Zc pms (i+1) es c fun as c=>k (a::as) c
def J4 (deps:List ED):List wh->Bool
 | []=>true
 | x::xs=>!(xs.any fun y=>dD x.key y.key||(Nat.beq x.i y.i&&Nat.beq x.j y.j)) && !(deps.any fun d=>dD x.key d.1)&&J4 deps xs
def wu (i j:Nat):List wh->Option wh
 | []=>none
 | l::ls=>cond (Nat.beq l.i i&&Nat.beq l.j j) (some l) (wu i j ls)
def jC (r:fZ) (i j:Nat):Option (List LT×List M×List (List T)):=(r.owns.getD i []).getD j none
def wZ (r:fZ) (i:Nat):Option (List RL):=r.bxs.getD i none
def ag5 (l:Leaf):Leaf:={ l with st:=.dead,d:=.l [] }
def wz (r:fZ):List wh->Prog->Prog
 | [],p=>p
 | l::ls,p=>.eY l.key fun ke=>cond (Nat.beq l.j uL)
  (match ke.ch with
  | .box old=>(match wZ r l.i with
   | some rls=>.fU (Nat.beq rls.length old.length) (.bE l.key ⟨.box (old.map ag5),ke.bM,ke.cv+1⟩ (wz r ls p))
   | none=>.fail)
  | _=>.fail)
  (match jC r l.i l.j with
  | some (es,ms,rows)=>.fU (LT.dO l.es es) (.bE l.key ⟨.row es ms rows,ke.bM,ke.cv+1⟩ (wz r ls p))
  | none=>.bE l.key ⟨.gone,ke.bM+1,ke.cv+1⟩ (wz r ls p))
def SS (c:Pass) (key:Key) (l:RL) (k:Leaf->Prog):Prog :=
 match l with
 | .sc s d=>k ⟨.sc,.sc s,d⟩
 | .fz es rows=>k ⟨.sn [],.sl es,.l rows⟩
 | .dz es rows=>k ⟨.sn c.deps,.sl es,.l rows⟩
 | .nl es=>k ⟨.nl,.sl es,.l []⟩
 | .own _ es ms rows=>.eY key fun ke=>.bE key ⟨.row es ms rows,ke.bM+1,ke.cv+1⟩ (k ⟨.al key (ke.bM+1),.sl es,.l []⟩)
 | .par i j=>oF (wu i j c.fB) fun l=>k ⟨.al l.key l.bM,.sl l.es,.l []⟩
def zq (c:Pass) (dst q:Nat):Nat->List RL->(List Leaf->Prog)->Prog
 | _,[],k=>k []
 | j,l::ls,k=>SS c [dst+2000000,q,j] l fun x=>zq c dst q (j+1) ls fun xs=>k (x::xs)
def A8 (c:Pass) (dst:Nat):Nat->List RE->(List eU->Prog)->Prog
 | _,[],k=>k []
 | q,e::es,k =>
  match e with
  | .one l=>SS c [dst+2000000,q,0] l fun x=>A8 c dst (q+1) es fun xs=>k (.one x::xs)
  | .agg ls=>zq c dst q 0 ls fun x=>A8 c dst (q+1) es fun xs=>k (.agg x::xs)
  | .bx _ ls=>zq c dst q 0 ls fun x=>.fU (Nat.beq x.length ls.length&&Nat.ble ls.length 1000) (.eY [dst+2000000,q,uL] fun ke =>
    .bE [dst+2000000,q,uL] ⟨.box x,ke.bM+1,ke.cv+1⟩ (A8 c dst (q+1) es fun xs=>k (.ptr [dst+2000000,q,uL] (ke.bM+1) 0 0::xs)))
  | _=>.fail
def zf (c:Pass) (dst:Nat) (r:fZ):List wh->Prog->Prog
 | [],p=>p
 | l::ls,p=>cond (Nat.beq l.j uL)
  (match wZ r l.i with
  | some rls=>zq c dst (1000+l.i) 0 rls fun xs=>.eY l.key fun ke=>match ke.ch with
   | .box old=>.fU (Nat.beq ke.bM l.bM&&Nat.beq xs.length old.length) (.bE l.key ⟨.box xs,ke.bM,ke.cv+1⟩ (zf c dst r ls p))
   | _=>.fail
  | none=>.fail)
  (zf c dst r ls p)
def ajt:M->PM | .F=>.F | .O ms=>.O ms
def SV (nk:Key) (ms:List M):List eU->(List eU->Prog)->Prog
 | [],k=>k []
 | e::es,k=>match ms with
  | []=>k (e::es)
  | ms=>match e with
   | .one l=>wo nk ((ms.map ajt).headD .R) l [] fun l _=>k (.one l::es)
   | .agg ls=>pq nk 0 (ms.map ajt) ls [] fun ls _=>k (.agg ls::es)
   | e=>k (e::es)
def ag6 (xs:List eU):eU:=match xs with | [x]=>x | _=>.SK xs
def SX (fr f:FuncId) (dst:Option Nat) (es:List eU):Prog :=
 .fU (Γ.fn f).isSome (R8 (match dst with | some d=>d | none=>2000000+f) 0 (Γ.sig f).pms es [] fun es os=>Zc (Γ.sig f).pms 0 es ⟨[],[],[]⟩ fun args c =>
 .fU (J4 c.deps c.fB) (.call f args fun r =>
  wz r c.fB (zf c (match dst with | some d=>d | none=>2000000+f) r c.fB (match dst with
   | none=>closeAll os .ret
   | some d=>A8 c d 0 r.rs fun xs=>closeAll os (SV [d+2000000,600] (Γ.cast fr d) xs fun xs=>.kJ d (ag6 xs) .ret)))))
def Qe:List Operand->(List eU->Prog)->Prog
 | [],k=>k []
 | x::xs,k=>rd x fun e=>Qe xs fun es=>k (e::es)
def O6 (es:List LT):Bool:=es.all fun l=>match l with | .sc .any=>false | _=>true
def partsOf (es:List LT) (ms:List M):List (Nat×Operand)->(List (Nat×List T)->Prog)->Prog
 | [],k=>k []
 | (i,x)::ps,k=>rd x fun e=>oF (DY e) fun ls=>wX es ms ls fun ds=>partsOf es ms ps fun r=>k ((i,ds)::r)
def MZ (n:Nat):List (Nat×List T)->List (List T)->Option (List (List T))
 | [],rows=>some rows
 | (i,ds)::ps,rows=>if i<rows.length&&ds.length==n then MZ n ps (rows.set i ds) else none
mutual
def ako:LT->M
 | .sc _=>.F
 | .sl es=>.O (ag7 es)
def ag7:List LT->List M
 | []=>[]
 | e::es=>ako e::ag7 es
end
def qg:List LT->List Leaf->(List M->Prog)->Prog
 | e::es,l::ls,k=>match l.st with
  | .al key _=>.eY key fun ke=>(match ke.ch with
    | .row _ ms _=>qg es ls fun r=>k (.O ms::r)
    | _=>qg es ls fun r=>k (.F::r))
  | .nl=>qg es ls fun r=>k (ako e::r)
  | _=>qg es ls fun r=>k (.F::r)
 | es,_,k=>k (es.map fun _=>.F)
def SY (ms:List M) (es:List LT) (ps:List (Nat×Operand)) (k:List M->Prog):Prog :=
 match ms,ps with
 | [],(_,x)::_=>rd x fun e=>oF (DY e) fun ls=>qg es ls k
 | [],[]=>k (es.map fun _=>.F)
 | ms,_=>k ms
def EI:List (Nat×Operand)->(List (Nat×List Leaf)->Prog)->Prog
 | [],k=>k []
 | (i,x)::ps,k=>rd x fun e=>oF (DY e) fun ls=>EI ps fun r=>k ((i,ls)::r)
def zu (Γ:Ctx) (fs:List (Nat×TypeId)):List (Nat×List Leaf)->List Leaf->Option (List Leaf)
 | [],acc=>some acc
 | (i,ls)::ps,acc=>match fs[i]? with
  | some (off,ft)=>match Γ.ty ft with
   | some tf=>cond (Nat.beq ls.length tf.aR.length&&Nat.ble (off+ls.length) acc.length) (zu Γ fs ps (acc.take off++ls++acc.drop (off+ls.length))) none
   | none=>none
  | none=>none
def pE:List LT->List Leaf->List Leaf
 | lt::aR,l::ls=>(match l.st,lt with | .nl,.sl _=>{ l with lt:=lt } | _,_=>l)::pE aR ls
 | _,ls=>ls
def O7 (ls:List Leaf):eU:=match ls with | [l]=>.one l | _=>.junk
def O8 (aR:List LT):eU->eU
 | .one l=>O7 (pE aR [l])
 | .agg ls=>.agg (pE aR ls)
 | e=>e
def rV (M0:List LT) (msT:List M) (lx:Leaf) (k:List (List T)->List ED->Prog):Prog :=
 match lx.st,lx.lt with
 | .sc,.sc .str=>.fU (LT.dO M0 [.sc (.int .u8)]&&SL msT) (k (gL lx.d.str) [])
 | .nl,_=>k [] []
 | .al key n,_=>.eY key fun ke=>.fU (Nat.beq ke.bM n) (match ke.ch with
   | .row es ms rows=>.fU (LT.dO M0 es) (cond (SL ms) (.fU (SL msT) (k rows [(key,ke.cv)])) (.fU (M.uP ms msT) (.bE key ⟨.row es msT rows,ke.bM,ke.cv+1⟩ (.eY key fun ke=>.bE key ⟨.gone,ke.bM+1,ke.cv+1⟩ (k rows [])))))
   | .fz es rows=>.fU (LT.dO M0 es&&SL msT) (k rows [])
   | _=>.fail)
 | _,_=>wW lx fun es rows deps=>.fU (LT.dO M0 es&&SL msT&&(wY M0||deps.isEmpty)) (k rows deps)
def uS (dst:Nat) (M0:List LT) (ms:List M) (old new:List (List T)):Prog :=
 .fU (Nat.ble M0.length 1000&&decide ((old.length+new.length) * M0.length<=aS)) (MP dst M0 ms (old++new))
def S9 (dst:Nat) (M0:List LT) (key:Key) (n:Nat) (lx:Leaf):Prog :=
 .eY key fun ke=>.fU (Nat.beq ke.bM n) (match ke.ch with
   | .row es ms _=>.fU (LT.dO M0 es) (rV M0 ms lx fun new deps=>.fU (!(deps.any fun d=>dD d.1 key)) (.eY key fun ke=>.fU (Nat.beq ke.bM n) (match ke.ch with
     | .row es' ms' rows=>.fU (LT.dO M0 es'&&M.dO ms ms') (.bE key ⟨.gone,ke.bM+1,ke.cv+1⟩ (uS dst M0 ms rows new))
     | _=>.fail)))
   | _=>.fail)
def Ta (msB:List M) (dst:Nat) (M0:List LT) (s x:eU):Prog :=
 Y6 s fun ls=>Y6 x fun lx =>
 match ls.st with
 | .nl=>(match msB,lx.st with
  | [],.al key _=>.eY key fun ke=>(match ke.ch with
    | .row _ ms _=>rV M0 ms lx fun new _=>uS dst M0 ms [] new
    | _=>rV M0 (M0.map fun _=>.F) lx fun new _=>uS dst M0 (M0.map fun _=>.F) [] new)
  | [],_=>rV M0 (M0.map fun _=>.F) lx fun new _=>uS dst M0 (M0.map fun _=>.F) [] new
  | msB,_=>rV M0 msB lx fun new _=>uS dst M0 msB [] new)
 | .al key n=>S9 dst M0 key n lx
 | .sb key n cv r off=>.eY key fun ke=>.fU (Nat.beq ke.bM n&&Nat.beq ke.cv cv) (MU key r fun _ ls=>match (ls.getD off default).st with
   | .al key n=>S9 dst M0 key n lx
   | _=>.fail)
 | _=>.fail
def HZ:TK->Bool | .sc .str=>true | _=>false
def sQ:TK->Bool | .slice _=>true | _=>false
def sliceBound (e:Option eU) (d:Int) (k:Int->Prog):Prog:=match e with
  | none=>k d
  | some e=>uQ e fun s t=>match s with | .int _=>k t.int | _=>.fail
def nN (ti:TI) (cut:Nat) (dst:Nat) (x:eU) (lo hi:Option eU):Prog :=
 Y6 x fun l =>
 match l.st,l.lt with
 | .sc,.sc .str =>
  let n:Int:=l.d.str.size
  .fU (HZ ti.kind) <| sliceBound hi n fun h=>sliceBound lo 0 fun a=>.fU (decide (0<=h/\h<=n)) (.fU (decide (0<=a/\a<=h))
   (oU (some dst) .str (.s (l.d.str.extract a.toNat h.toNat))))
 | _,_=>wW l fun es rows deps =>
  let n:Int:=rows.length
  .fU (match ti.aR with | [.sl tes]=>sQ ti.kind&&Nat.beq es.length tes.length | _=>false) <| sliceBound hi n fun h=>sliceBound lo 0 fun a=>.fU (decide (0<=h/\h<=n)) (.fU (decide (0<=a/\a<=h))
   (match cut with
    | 0=>.kJ dst (.one ⟨.sn deps,.sl es,.l ((rows.take h.toNat).drop a.toNat)⟩) .ret
    | 1=>(match l.st,lo with
    | .al key _,none=>.eY key fun ke=>match ke.ch with
      | .row es ms rows=>.fU (SL ms) (.bE key ⟨.gone,ke.bM+1,ke.cv+1⟩ (MP dst es ms (rows.take h.toNat)))
      | _=>.fail
    | _,_=>.fail)
    | _=>(match l.st with
    | .al key n=>.eY key fun ke=>.fU (Nat.beq ke.bM n && !dD key sP) (match ke.ch with
      | .row es0 _ X0=>.bE key { ke with ch:=.fz es0 X0 } (.kJ dst (.one ⟨.sn [],.sl es,.l ((rows.take h.toNat).drop a.toNat)⟩) .ret)
      | .fz _ _=>.kJ dst (.one ⟨.sn [],.sl es,.l ((rows.take h.toNat).drop a.toNat)⟩) .ret
      | _=>.fail)
    | .sn []=>.kJ dst (.one ⟨.sn [],.sl es,.l ((rows.take h.toNat).drop a.toNat)⟩) .ret
    | .nl=>.kJ dst (.one ⟨.sn [],.sl es,.l ((rows.take h.toNat).drop a.toNat)⟩) .ret
    | _=>.fail)))
def aqR (n:Int):T:=.i n
def i64:ST:=.int .i64
def M4 (x y:Int):Int:=if y<x then y else x
def M5 (x y:Int):Int:=if y > x then y else x
def Zd (f:Int->Int->Int):List eU->Option (IntKind×Int)
 | [.one ⟨.sc,.sc (.int k),x⟩,.one ⟨.sc,.sc (.int k'),y⟩]=>if k=k' then some (k,f x.int y.int) else none
 | _=>none
def R9:TK->Bool | .sc (.int .u8)=>true | _=>false
def H6 (dst:Nat) (aoC amH:TI) (x:eU):Prog :=
 match aoC.kind,amH.kind with
 | .sc (.int _),.sc (.int k)=>uQ x fun s d=>match s with
  | .int _=>oU (some dst) (.int k) (.i (k.wrap d.int))
  | _=>.fail
 | .sc .str,.sc .str=>uQ x fun s d=>match s with
  | .str=>oU (some dst) .str d
  | _=>.fail
 | .sc .str,.slice el=>uI Γ el fun te=>.fU (R9 te.kind) (uQ x fun s d=>match s,amH.aR with
  | .str,[.sl [.sc (.int .u8)]]=>.fU (decide (d.str.size<=aK)) (.kJ dst (.one ⟨.sn [],.sl [.sc (.int .u8)],.l (gL d.str)⟩) .ret)
  | _,_=>.fail)
 | .slice el,.sc .str=>uI Γ el fun te=>.fU (R9 te.kind) (Y6 x fun l=>wW l fun es rows _=>match es with
  | [.sc (.int .u8)]=>oU (some dst) .str (.s (qd rows))
  | _=>.fail)
 | _,_=>.fail
def Sb (pm:List M) (d0:Nat) (ls:List Leaf):Prog :=
 match pm with
 | []=>ag2 d0 ls
 | pm=>pq [d0+2000000,500] 0 (pm.map ajt) ls [] fun ls _=>ag2 d0 ls
def Sc (pm:List M) (dst:Option Nat) (ls:List Leaf):Prog :=
 match pm,dst with
 | _::_,some d=>pq [d+2000000,400] 0 (pm.map ajt) ls [] fun ls _=>put dst (.agg ls)
 | _,_=>put dst (.agg ls)
def isZero:Operand->Bool | .const (.int _ 0)=>true | _=>false
def slice3 (ti:TI) (dst:Nat) (x:eU) (lo:Option eU) (hi mx:eU) (z:Bool):Prog :=
 Y6 x fun l=>wW l fun es rows deps =>
  .fU (match ti.aR with | [.sl tes]=>sQ ti.kind&&Nat.beq es.length tes.length && !es.isEmpty | _=>false) <| uQ hi fun sh h=>uQ mx fun sm m=>sliceBound lo 0 fun a=>(match sh,sm with
   | .int _,.int _=>.fU (decide (0<=h.int/\h.int<=m.int/\m.int<=rows.length)) (.fU (decide (0<=a/\a<=h.int))
    (cond (z&&lo.isNone) (.fU (decide (h.int=0/\m.int=0)) (MP dst es (es.map fun _=>.F) [])) (.kJ dst (.one ⟨.sn deps,.sl es,.l ((rows.take h.int.toNat).drop a.toNat)⟩) .ret)))
   | _,_=>.fail)
def aeA (s:ST):List Leaf->Bool
 | []=>true
 | l::ls=>(match l.st,l.lt with | .sc,.sc s'=>decide (s=s') | _,_=>false)&&aeA s ls
def Tc (m:Nat) (el:TypeId) (dst:Nat) (e:eU):Prog:=uI Γ el fun te=>match te.aR,e with
 | [.sc s],.ptr key n _ off=>.eY key fun ke=>.fU (Nat.beq ke.bM n) (match ke.ch with
   | .box ls=>.fU (Nat.beq off 0&&Nat.beq ls.length m&&Nat.ble m 1000&&aeA s ls) (.kJ dst (.one ⟨.sn [(key,ke.cv)],.sl [.sc s],.l (ls.map fun l=>[l.d])⟩) .ret)
   | _=>.fail)
 | _,_=>.fail
def Ze (f:FuncId) (t:TypeId) (dst:Option Nat) (e:eU):Prog :=
 match e with
 | .SK _=>put dst e
 | e=>uI Γ t fun ti=>ag4 (Γ.own f) (Γ.ms f) dst (O8 ti.aR e)
def Zf:eU->Bool | .SK _=>false | .fn _ _=>false | _=>true
def Td (s:ST) (x:T):T:=match s with | .bool=>.b x.bool | _=>x
def bF (f:FuncId) (o:Oper):Prog :=
 let dst:=o.dst
 let wd:=oF o.dst
 match o.op with
 | .move x | .assign x=>rd x fun e=>Ze Γ f o.type dst e
 | .pick c a b=>rd c fun c=>rd a fun a=>rd b fun b=>uQ c fun sc c =>
   match sc with
   | .bool=>.br c.bool (uQ a fun s x=>oU dst s (Td s x)) (uQ b fun s x=>oU dst s (Td s x))
   | _=>.fail
 | .alloc t=>wd fun d0=>uI Γ t fun ti=>Sb (Γ.box f d0) d0 (ti.aR.map MO)
 | .box t x=>wd fun d0=>uI Γ t fun ti=>rd x fun e=>oF (DY e) fun ls=>Sb (Γ.box f d0) d0 (pE ti.aR ls)
 | .build t ps=>uI Γ t fun ti=>match ti.kind with
   | .struct fs=>EI ps.toList fun r=>oF (zu Γ fs r (ti.aR.map MO)) fun ls=>Sc (match dst with | some d=>Γ.box f d | none=>[]) dst (pE ti.aR ls)
   | .array m el=>uI Γ el fun te=>EI ps.toList fun r=>oF (zu Γ ((List.range m).map fun i=>(i * te.aR.length,el)) r (ti.aR.map MO)) fun ls=>Sc (match dst with | some d=>Γ.box f d | none=>[]) dst (pE ti.aR ls)
   | _=>.fail
 | .buildSlice t n ps=>wd fun d0=>uI Γ t fun ti=>match ti.kind,ti.aR with
   | .slice _,[.sl es]=>.fU (O6 es&&Nat.ble (n * es.length) 16777216) <|
     SY (Γ.ms f d0) es ps.toList fun ms=>.fU (afE es ms) (partsOf es ms ps.toList fun r =>
     oF (MZ es.length r (List.replicate n (es.map GA))) fun rows=>ak8 (!Γ.own f d0) d0 es ms rows)
   | _,_=>.fail
 | .load t a=>uI Γ t fun ti=>rd a fun e =>
   let size:=ti.aR.length
   let agg:=zm ti.kind
   match e with
   | .ptr key n r off=>.eY key fun ke=>.fU (Nat.beq ke.bM n) (match ke.ch with
     | .box ls=>.fU (Nat.ble (off+size) ls.length) (put dst (HV agg ((ls.drop off).take size)))
     | .row es ms rows=>.fU (Nat.ble (off+size) es.length) (.fU (decide (r<rows.length)) (put dst (HV agg (O4 key n ke.cv r off size es ms (rows.getD r [])))))
     | .fz es rows=>.fU (Nat.ble (off+size) es.length) (.fU (decide (r<rows.length)) (put dst (HV agg (MR [] size (es.drop off) ((rows.getD r []).drop off)))))
     | .hol _ _ _ r' j=>.fU (Nat.beq r r') (.eY (iy key) fun kb=>.fU (Nat.beq kb.bM j) <| match kb.ch with
       | .box ls=>.fU (Nat.ble (off+size) ls.length) (put dst (HV agg ((ls.drop off).take size)))
       | _=>.fail)
     | _=>.fail)
   | .rp deps aR row=>.fU (Nat.ble size aR.length) (Cr deps (put dst (HV agg (MR deps size aR row))))
   | _=>.fail
 | .store t a x=>uI Γ t fun ti=>rd a fun e=>rd x fun v=>oF (DY v) fun ls =>
   match e with
   | .ptr key n r off=>.eY key fun ke=>.fU (Nat.beq ke.bM n) (match ke.ch with
     | .box old=>.fU (Nat.beq ls.length ti.aR.length&&Nat.ble (off+ls.length) old.length) (.bE key ⟨.box (old.take off++pE ti.aR ls++old.drop (off+ls.length)),ke.bM,ke.cv+1⟩ (put dst .und))
     | .row es0 ms0 _=>.fU (Nat.beq ls.length ti.aR.length&&Nat.ble (off+ls.length) es0.length) <| wX ((es0.drop off).take ls.length) (ms0.drop off) ls fun ds=>.eY key fun ke=>.fU (Nat.beq ke.bM n) <| match ke.ch with
       | .row es ms rows=>.fU (LT.dO es0 es&&M.dO ms0 ms&&decide (r<rows.length))
         (.bE key ⟨.row es ms (rows.set r (setMany (rows.getD r []) off ds)),ke.bM,ke.cv+1⟩ (put dst .und))
       | _=>.fail
     | .hol _ _ _ r' j=>.fU (Nat.beq r r') (.eY (iy key) fun kb=>.fU (Nat.beq kb.bM j) <| match kb.ch with
       | .box old=>.fU (Nat.beq ls.length ti.aR.length&&Nat.ble (off+ls.length) old.length) (.bE (iy key) ⟨.box (old.take off++pE ti.aR ls++old.drop (off+ls.length)),kb.bM,kb.cv+1⟩ (MV key (put dst .und)))
       | _=>.fail)
     | _=>.fail)
   | _=>.fail
 | .nilCheck x=>rd x fun e=>match e with
   | .ptr k n _ _=>.eY k fun ke=>.fU (Nat.beq ke.bM n) (put dst e)
   | .rp ds _ _=>Cr ds (put dst e)
   | _=>.fail
 | .binOp op t x y _=>uI Γ t fun ti=>rd x fun x=>rd y fun y=>amF ti op x y fun s d=>oU dst s d
 | .unOp op _ x=>rd x fun x=>uQ x fun s d=>match op,s with
   | .not,.bool=>oU dst .bool (.b (!d.bool))
   | .neg,.int k=>oU dst (.int k) (.i (k.wrap (0-d.int)))
   | .xor,.int k=>oU dst (.int k) (uR k (BitVec.ofInt k.bits (if k.signed then -1 else k.max) ^^^ BitVec.ofInt k.bits d.int))
   | _,_=>.fail
 | .convert s t x=>wd fun d0=>uI Γ s fun ts=>uI Γ t fun tt=>rd x fun e=>H6 Γ d0 ts tt e
 | .makeSlice t l c=>wd fun d0=>uI Γ t fun ti=>rd l fun l=>rd c fun c=>uQ l fun sl l=>uQ c fun sc c=>match sl,sc,ti.kind,ti.aR with
   | .int .i64,.int .i64,.slice el,[.sl es]=>uI Γ el fun te =>
     .fU (O6 es&&afE es (J3 (Γ.ms f) d0 es)&&decide (0<=l.int/\l.int<=c.int)) (.fU (decide (c.int * te.bytes<=aK)) (MP d0 es (J3 (Γ.ms f) d0 es) (List.replicate l.int.toNat (es.map GA))))
   | _,_,_,_=>.fail
 | .slice t x lo hi none=>wd fun d0=>uI Γ t fun ti=>rd x fun x =>
   let go (lo:Option eU) (hi:Option eU):=nN ti (Γ.cut f d0) d0 x lo hi
   match lo,hi with
   | none,none=>(match ti.kind with | .array m el=>Tc Γ m el d0 x | _=>go none none)
   | some a,none=>rd a fun a=>go (some a) none
   | none,some b=>rd b fun b=>go none (some b)
   | some a,some b=>rd a fun a=>rd b fun b=>go (some a) (some b)
 | .slice t x lo (some hi) (some mx)=>wd fun d0=>uI Γ t fun ti=>rd x fun x=>rd hi fun h=>rd mx fun m=>(match lo with
   | none=>slice3 ti d0 x none h m (isZero hi&&isZero mx)
   | some lo=>rd lo fun l=>slice3 ti d0 x (some l) h m false)
 | .fieldAddr t x i=>uI Γ t fun ti=>rd x fun e=>match ti.kind with
   | .struct fs=>oF fs[i]? fun (off,_)=>match e with
     | .ptr k n r o=>.eY k fun ke=>.fU (Nat.beq ke.bM n) (put dst (.ptr k n r (o+off)))
     | .rp deps aR row=>.fU (Nat.ble off aR.length) (Cr deps (put dst (.rp deps (aR.drop off) (row.drop off))))
     | _=>.fail
   | _=>.fail
 | .field t x i=>uI Γ t fun ti=>rd x fun e=>match ti.kind,e with
   | .struct fs,.agg ls=>oF fs[i]? fun (off,ft)=>uI Γ ft fun tf=>.fU (Nat.ble (off+tf.aR.length) ls.length) (put dst (HV (zm tf.kind) ((ls.drop off).take tf.aR.length)))
   | _,_=>.fail
 | .indexAddr t x i=>uI Γ t fun ti=>rd x fun e=>rd i fun ie=>uQ ie fun si ix=>match si,ti.kind,ti.aR,e with
   | .int _,.slice _,[.sl tes],.one l=>(match l.st with
     | .al key n=>.eY key fun ke=>.fU (Nat.beq ke.bM n) (match ke.ch with
       | .row es _ rows=>.fU (Nat.beq es.length tes.length) (.fU (decide (0<=ix.int/\ix.int<rows.length)) (put dst (.ptr key n ix.int.toNat 0)))
       | .fz es rows=>.fU (Nat.beq es.length tes.length) (.fU (decide (0<=ix.int/\ix.int<rows.length)) (put dst (.ptr key n ix.int.toNat 0)))
       | _=>.fail)
     | _=>wW l fun es rows deps=>.fU (Nat.beq es.length tes.length) (.fU (decide (0<=ix.int/\ix.int<rows.length)) (put dst (.rp deps es (rows.getD ix.int.toNat [])))))
   | _,_,_,_=>.fail
 | .index t x i=>uI Γ t fun ti=>rd x fun x=>rd i fun i=>uQ x fun sx d=>uQ i fun si ix=>match si,sx,ti.kind with
   | .int _,.str,.sc .str=>.fU (decide (0<=ix.int/\ix.int<d.str.size)) (oU dst (.int .u8) (.i (d.str.data.toList.getD ix.int.toNat 0).toNat))
   | _,_,_=>.fail
 | .extract x i=>rd x fun e=>match e with
   | .SK es=>oF es[i]? fun e=>put dst e
   | _=>.fail
 | .makeFunc (.func g) first caps=>cond (first.isEmpty) (Qe caps.toList fun es=>.fU (es.all Zf) (put dst (.fn g es))) .fail
 | .call c=>match c.callee with
   | .value g=>rd g fun g=>Qe c.args.toList fun es=>match g with
     | .fn g caps=>SX Γ f g dst (es++caps)
     | _=>.fail
   | .builtin .len=>oF c.argTypes[0]? fun t=>uI Γ t fun ti=>Qe c.args.toList fun es=>match es with
     | [.one l]=>(match l.st,l.lt with
       | .sc,.sc .str=>.fU (HZ ti.kind) (oU dst i64 (.i l.d.str.size))
       | _,_=>.fU (sQ ti.kind) (wW l fun _ rows _=>.lim (decide (rows.length<=aK)) (oU dst i64 (.i rows.length))))
     | _=>.fail
   | .builtin .min=>Qe c.args.toList fun es=>oF (Zd M4 es) fun (k,v)=>oU dst (.int k) (.i v)
   | .builtin .max=>Qe c.args.toList fun es=>oF (Zd M5 es) fun (k,v)=>oU dst (.int k) (.i v)
   | .builtin .append=>wd fun d0=>Qe c.args.toList fun es=>match es,c.argTypes.toList with
     | [s,x],[t,tx]=>uI Γ t fun ti=>uI Γ tx fun tk=>match ti.kind,ti.aR with
       | .slice _,[.sl aR]=>.fU (sQ tk.kind||HZ tk.kind) (Ta (Γ.ms f d0) d0 aR s x)
       | _,_=>.fail
     | _,_=>.fail
   | _=>.fail
 | _=>.fail
def bit (t:Nat):Nat:=1 <<< t
def akp (m:Nat):Operand->Nat
 | .tmp t=>m ||| bit t
 | _=>m
def aeB (ops:Array Oper):List Oper->Nat->Nat
 | [],m=>m
 | o::os,m =>
  let m:=aeB ops os m
  let m:=match o.dst with
   | some d=>m ^^^ (m &&& bit d)
   | none=>m
  let m:=o.op.operands.toList.foldl akp m
  match o.guard with
  | some (i,_)=>(match (ops[i]?).bind (·.dst) with | some d=>m ||| bit d | none=>m)
  | none=>m
def Te (ex:List (Nat×Nat)) (id:Nat):Nat:=match ex.find? (fun p=>Nat.beq p.1 id) with | some p=>p.2 | none=>0
def lin (ret:Nat):List (Nat×Nat)->Code->Nat->Nat
 | _,.region _ ops _,m=>aeB ops ops.toList m
 | ex,.seq a b,m=>lin ret ex a (lin ret ex b m)
 | ex,.cond c a b,m=>akp (lin ret ex a m ||| lin ret ex b m) c
 | ex,.block id b,m=>lin ret ((id,m)::ex) b m
 | ex,.loop b,_=>lin ret ex b (lin ret ex b 0)
 | ex,.exit id,_=>Te ex id
 | _,.ret,_=>ret
 | _,_,m=>m
structure Pack where
 es:List (Nat×eU)
 ks:List (Key×Ch)
 deriving Inhabited
inductive Qf where
 | normal | exit (id:Nat) | ret
 deriving Inhabited
def H7:Ch->Bool
 | .Hz _ _ _=>false
 | .hol _ _ _ _ _=>false
 | _=>true
def sS (σ:S) (ds:List ED):Bool:=ds.all fun d=>Nat.beq (σ.k d.1).cv d.2&&H7 (σ.k d.1).ch
def pF (ds:List ED):List ED:=ds.map fun d=>(d.1,0)
def DZ (σ:S) (l:Leaf):Leaf :=
 match l.st with
 | .sn ds=>cond (sS σ ds) { l with st:=.sn (pF ds) } { l with st:=.dead,d:=.l [] }
 | .sb k _ cv _ _=>cond (sS σ [(k,cv)]) { l with st:=.sn [(k,0)] } { l with st:=.dead,d:=.l [] }
 | .al k n=>cond (Nat.beq (σ.k k).bM n&&H7 (σ.k k).ch) { l with st:=.al k 0 } { l with st:=.dead,d:=.l [] }
 | _=>l
def yc (σ:S):Nat->eU->eU
 | _,.one l=>.one (DZ σ l)
 | _,.agg ls=>.agg (ls.map (DZ σ))
 | n+1,.SK es=>.SK (es.map (yc σ n))
 | _,.ptr k n i off=>cond (Nat.beq (σ.k k).bM n&&H7 (σ.k k).ch) (.ptr k 0 i off) .junk
 | _,.rp ds aR row=>cond (sS σ ds) (.rp (pF ds) aR row) .junk
 | n+1,.fn f caps=>.fn f (caps.map (yc σ n))
 | _,.und=>.und
 | _,_=>.junk
def wB (l:Leaf):List Key:=match l.st with
 | .sn ds=>ds.map (·.1)
 | .sb k _ _ _ _=>[k]
 | .al k _=>[k]
 | _=>[]
def Sd:Nat->eU->List Key
 | _,.one l=>wB l
 | _,.agg ls=>ls.flatMap wB
 | n+1,.SK es=>es.flatMap (Sd n)
 | _,.ptr k _ _ _=>[k]
 | _,.rp ds _ _=>ds.map (·.1)
 | n+1,.fn _ caps=>caps.flatMap (Sd n)
 | _,_=>[]
def J5 (ks new:List Key):List Key:=new.foldl (fun ks k=>cond (ks.any (dD k)) ks (ks++[k])) ks
def ag8:Ch->List Key
 | .box ls=>ls.flatMap wB
 | _=>[]
def Zg (k:Key):Nat->List Key->Key
 | _,[]=>k
 | i,u::us=>cond (dD k u) [1000000,i] (Zg k (i+1) us)
def Zh (np:Nat):Key->Bool
 | i::_=>Nat.blt i np
 | []=>false
def dU (np:Nat) (ks:List Key) (k:Key):Key:=cond (Zh np k||dD k sP) k (Zg k 0 ks)
def O9 (ks:List Key) (k:Key):Bool:=ks.any (dD k)
def EJ (np:Nat) (ks:List Key) (ds:List ED):List ED:=ds.map fun d=>(dU np ks d.1,d.2)
def sU (np:Nat) (ks:List Key) (l:Leaf):Leaf :=
 match l.st with
 | .sn ds=>cond (ds.all fun d=>O9 ks d.1) { l with st:=.sn (EJ np ks ds) } { l with st:=.dead,d:=.l [] }
 | .sb _ _ _ _ _=>{ l with st:=.dead,d:=.l [] }
 | .al k n=>cond (O9 ks k) { l with st:=.al (dU np ks k) n } { l with st:=.dead,d:=.l [] }
 | _=>l
def zw (np:Nat) (ks:List Key):Nat->eU->eU
 | _,.one l=>.one (sU np ks l)
 | _,.agg ls=>.agg (ls.map (sU np ks))
 | n+1,.SK es=>.SK (es.map (zw np ks n))
 | _,.ptr k n i off=>cond (O9 ks k) (.ptr (dU np ks k) n i off) .junk
 | _,.rp ds aR row=>cond (ds.all fun d=>O9 ks d.1) (.rp (EJ np ks ds) aR row) .junk
 | n+1,.fn f caps=>.fn f (caps.map (zw np ks n))
 | _,.und=>.und
 | _,_=>.junk
def w9 (σ:S):Ch->Ch
 | .box ls=>.box (ls.map (DZ σ))
 | .Hz _ _ _=>.gone
 | .hol _ _ _ _ _=>.gone
 | c=>c
def Ky (np:Nat) (ks:List Key):Ch->Ch
 | .box ls=>.box (ls.map (sU np ks))
 | c=>c
def bitsOf (n m:Nat):List Nat:=(List.range n).filter fun t=>Nat.testBit m t
def A9 (np n m:Nat) (σ:S):Pack :=
 let es:=(bitsOf n m).map fun t=>(t,yc σ 3 (σ.s t))
 let ks:=J5 [] (es.flatMap fun e=>Sd 3 e.2)
 let Rj:=J5 ks (ks.flatMap fun k=>ag8 (w9 σ (σ.k k).ch))
 ⟨es.map fun e=>(e.1,zw np Rj 3 e.2),Rj.map fun k=>(dU np Rj k,Ky np Rj (w9 σ (σ.k k).ch))⟩
def vL (t:Nat):List (Nat×eU)->eU
 | []=>.junk
 | (u,e)::r=>cond (Nat.beq t u) e (vL t r)
def H8 (k:Key):List (Key×Ch)->KE
 | []=>⟨.gone,0,0⟩
 | (u,c)::r=>cond (dD k u) ⟨c,0,0⟩ (H8 k r)
def mZ (p:Pack):S:=⟨fun t=>vL t p.es,fun k=>H8 k p.ks⟩
def adp (b:Bool):eU:=.one ⟨.sc,.sc .bool,.b b⟩
variable (cf:FuncId->List Arg->R3 fZ)
def Zi (a b:Tr):Bool :=
 !(a.ws.any fun t=>b.ws.any (Nat.beq t)||b.rs.any (Nat.beq t)) && !(b.ws.any fun t=>a.rs.any (Nat.beq t)) &&
 !(a.wk.any fun t=>b.wk.any (dD t)||b.rk.any (dD t)) && !(b.wk.any fun t=>a.rk.any (dD t))
def Zj (acc:List Nat) (o:Oper):Nat:=o.after.toList.foldl (fun s e=>cond (Region.binds .any e) (s ||| 2 ^ e.on ||| acc.getD e.on 0) s) 0
def H9:List Oper->List Nat->List Nat
 | [],acc=>acc
 | o::os,acc=>H9 os (acc++[Zj acc o])
def Sg:Nat->List Oper->Bool
 | _,[]=>true
 | j,o::os=>(o.after.toList.all fun e=>!Region.binds .any e||Nat.blt e.on j)&&Sg (j+1) os
def Si (bf:List Nat) (i:Nat) (ti:Tr):Nat->List Tr->Bool
 | _,[]=>true
 | j,tj::ts=>(Nat.testBit (bf.getD j 0) i||Zi ti tj)&&Si bf i ti (j+1) ts
def Sj (bf:List Nat):Nat->List Tr->Bool
 | _,[]=>true
 | i,ti::ts=>Si bf i ti (i+1) ts&&Sj bf (i+1) ts
def Tf (ops:Array Oper) (EF:List Tr):Bool:=Sg 0 ops.toList&&Sj (H9 ops.toList []) 0 EF
def cZ (np nt:Nat) (o:Oper):Bool:=match o.dst with | some d=>Nat.blt d nt | none=>true
def yg (g:Nat):List (Nat×Bool)->Option Bool
 | []=>none
 | (u,b)::r=>cond (Nat.beq g u) (some b) (yg g r)
def sV (ws:List Nat):List (Nat×Bool)->List (Nat×Bool)
 | []=>[]
 | (u,b)::r=>cond (ws.any (Nat.beq u)) (sV ws r) ((u,b)::sV ws r)
def aa4 (asm:List (Nat×Bool)) (x:Operand) (e:eU):eU :=
 match x with
 | .tmp u=>(match yg u asm with
  | some w=>adp w
  | none=>e)
 | _=>e
def Sk (f:FuncId) (asm:List (Nat×Bool)) (o:Oper):Prog :=
 match o.op with
 | .pick (.tmp c) a b=>(match yg c asm with
  | some v=>.Cq c fun _=>rd a fun ea=>rd b fun eb=>cond v (uQ (aa4 asm a ea) fun s x=>oU o.dst s (Td s x)) (uQ (aa4 asm b eb) fun s x=>oU o.dst s (Td s x))
  | none=>bF Γ f o)
 | _=>bF Γ f o
def sW {α:Type} (f np nt:Nat) (ops:Array Oper):List Oper->S->List Tr->List (Nat×Bool)->(S->List Tr->List (Nat×Bool)->R3 α)->R3 α
 | [],σ,EF,asm,K=>K σ EF.reverse asm
 | o::os,σ,EF,asm,K =>
  cond (cZ np nt o) (
   let step (tr0:Tr) (asm:List (Nat×Bool)):R3 α:=(Sk Γ f asm o).run cf σ tr0 fun σ tr=>sW f np nt ops os σ (tr::EF) (sV tr.ws asm) K
   let skip (g:Nat) (asm:List (Nat×Bool)):R3 α:=(put o.dst .und).run cf σ { rs:=[g] } fun σ tr=>sW f np nt ops os σ (tr::EF) (sV tr.ws asm) K
   match o.guard with
   | none=>step {} asm
   | some (i,want) =>
    match (ops[i]?).bind (·.dst) with
    | none=>.bad
    | some g =>
     match yg g asm with
     | some b=>cond (b==want) (step { rs:=[g] } asm) (skip g asm)
     | none =>
      match σ.s g with
      | .und=>skip g asm
      | .one ⟨.sc,.sc .bool,d⟩=>cond (d.bool==want) (step { rs:=[g] } ((g,want)::asm)) (skip g ((g,!want)::asm))
      | _=>.bad) .bad
def Zk (σ:S):List (Nat×Bool)->S
 | []=>σ
 | (g,b)::r=>(Zk σ r).kJ g (adp b)
def yh (l:Leaf) (p:Prog):Prog :=
 match l.st with
 | .al key n=>.eY key fun ke=>cond (Nat.beq ke.bM n) (match ke.ch with
   | .row es _ rows=>.bE key { ke with ch:=.fz es rows } p
   | _=>p) p
 | _=>p
def D5:List Leaf->Prog->Prog
 | [],p=>p
 | l::ls,p=>yh l (D5 ls p)
def Kt:List (Nat×Nat)->Prog
 | []=>.ret
 | (t,j)::r=>.Cq t fun e=>match e with
  | .one l=>yh l (Kt r)
  | .agg ls=>yh (ls.getD j default) (Kt r)
  | .ptr k _ _ off=>.eY k fun ke=>(match ke.ch with
   | .box ls=>yh (ls.getD (off+j) default) (Kt r)
   | _=>Kt r)
  | _=>Kt r
structure Fi where
 f:FuncId
 np:Nat
 nt:Nat
 ret:Nat
def ng {α:Type} (lf:List (Nat×Nat)->Code->Pack->R3 (Qf×Pack)) (fi:Fi):List (Nat×Nat)->Nat->Code->S->(Qf->S->R3 α)->R3 α
 | _,_,.skip,σ,K=>K .normal σ
 | _,_,.region id ops dr,σ,K=>(Kt (Γ.rg fi.f id)).run cf σ {} fun σ _=>sW Γ cf fi.f fi.np fi.nt ops ops.toList σ [] [] fun σ EF asm=>cond (!dr||Tf ops EF) (K .normal (Zk σ asm)) .bad
 | ex,af,.seq a b,σ,K=>ng lf fi ex (lin fi.ret ex b af) a σ fun c σ=>match c with
   | .normal=>ng lf fi ex af b σ K
   | c=>K c σ
 | ex,af,.cond c a b,σ,K =>
  match c with
  | .tmp t=>(match σ.s t with
   | .one ⟨.sc,.sc .bool,d⟩=>cond d.bool (ng lf fi ex af a (σ.kJ t (adp true)) K) (ng lf fi ex af b (σ.kJ t (adp false)) K)
   | _=>.bad)
  | .const (.bool true)=>ng lf fi ex af a σ K
  | .const (.bool false)=>ng lf fi ex af b σ K
  | _=>.bad
 | ex,af,.block id b,σ,K=>ng lf fi ((id,af)::ex) af b σ fun c σ=>match c with
   | .exit id'=>cond (Nat.beq id' id) (K .normal σ) (K (.exit id') σ)
   | c=>K c σ
 | ex,_,.loop b,σ,K=>(lf ex b (A9 fi.np fi.nt (lin fi.ret ex b (lin fi.ret ex b 0)) σ)).bind fun cp=>K cp.1 (mZ cp.2)
 | _,_,.exit id,σ,K=>K (.exit id) σ
 | _,_,.ret,σ,K=>K .ret σ
 | _,_,_,_,_=>.bad
def Kz (fi:Fi):Nat->List (Nat×Nat)->Code->Pack->R3 (Qf×Pack)
 | 0,_,_,_=>.bad
 | n+1,ex,b,p =>
  let m:=lin fi.ret ex b (lin fi.ret ex b 0)
  ng Γ cf (Kz fi n) fi ex m b (mZ p) fun c σ=>match c with
   | .normal=>Kz fi n ex b (A9 fi.np fi.nt m σ)
   | .exit id=>.ok (.exit id,A9 fi.np fi.nt (Te ex id) σ)
   | .ret=>.ok (.ret,A9 fi.np fi.nt fi.ret σ)
def adr (i j:Nat):AL->Leaf
 | .sc s d=>⟨.sc,.sc s,d⟩
 | .fz es rows=>⟨.sn [],.sl es,.l rows⟩
 | .dz es rows=>⟨.sn [(sP,0)],.sl es,.l rows⟩
 | .own es _ _=>⟨.al [i,j] 0,.sl es,.l []⟩
 | .nl es=>⟨.nl,.sl es,.l []⟩
def zx (i:Nat):Nat->List AL->List Leaf
 | _,[]=>[]
 | j,a::as=>adr i j a::zx i (j+1) as
def akq:Arg->eU
 | .Kw aR row=>.rp [(sP,0)] aR row
 | _=>.junk
def ag9 (i:Nat):Arg->eU
 | .one a=>.one (adr i 0 a)
 | .agg as=>.agg (zx i 0 as)
 | .Kw aR row=>.rp [(sP,0)] aR row
 | .bx _=>.ptr [i,uL] 0 0 0
 | .fn f caps=>.fn f (caps.map akq)
def KA (i:Nat):Nat->List AL->List (Key×Ch)
 | _,[]=>[]
 | j,a::as=>match a with
  | .own es ms rows=>([i,j],.row es ms rows)::KA i (j+1) as
  | _=>KA i (j+1) as
def aeC (i:Nat):Arg->List (Key×Ch)
 | .one a=>KA i 0 [a]
 | .agg as=>KA i 0 as
 | .bx as=>([i,uL],.box (zx i 0 as))::KA i 0 as
 | _=>[]
def Tg:Nat->List Arg->List (Nat×eU)
 | _,[]=>[]
 | i,a::as=>(i,ag9 i a)::Tg (i+1) as
def zy:Nat->List Arg->List (Key×Ch)
 | _,[]=>[]
 | i,a::as=>aeC i a++zy (i+1) as
def Pb (args:List Arg):Pack:=⟨Tg 0 args,zy 0 args⟩
def akr:Ch->Bool | .gone=>true | _=>false
def Sl (σ:S) (np:Nat) (l:Leaf):Option RL :=
 match l.lt,l.st with
 | .sc s,.sc=>some (.sc s l.d)
 | .sl es,.nl=>some (.nl es)
 | .sl es,.sn ds=>(match ds with
  | []=>some (.fz es l.d.rows)
  | ds=>cond (akr (σ.k sP).ch&&ds.all fun d=>dD d.1 sP&&Nat.beq (σ.k sP).cv d.2) (some (.dz es l.d.rows)) none)
 | .sl es0,.al k n =>
  let ke:=σ.k k
  cond (Nat.beq ke.bM n) (match ke.ch with
   | .fz es rows=>cond (LT.dO es0 es) (some (.fz es rows)) none
   | .row es ms rows=>cond (LT.dO es0 es) (match k with
     | [i,j]=>cond (Nat.blt i np) (some (.par i j)) (some (.own k es ms rows))
     | _=>cond (Nat.blt (k.headD 0) np) none (some (.own k es ms rows))) none
   | _=>none) none
 | _,_=>none
def kN (σ:S) (np:Nat):List Leaf->Option (List RL)
 | []=>some []
 | l::ls=>match Sl σ np l,kN σ np ls with
  | some r,some rs=>some (r::rs)
  | _,_=>none
def Ti (σ:S) (np:Nat):eU->Option RE
 | .one l=>(Sl σ np l).map .one
 | .agg ls=>(kN σ np ls).map .agg
 | .ptr k n _ off=>cond (Nat.beq (σ.k k).bM n&&Nat.beq off 0 && !Nat.blt (k.headD 0) np) (match (σ.k k).ch with
  | .box ls=>(kN σ np ls).map (.bx k)
  | _=>none) none
 | _=>none
def M6 (σ:S) (np:Nat):List eU->Option (List RE)
 | []=>some []
 | l::ls=>match Ti σ np l,M6 σ np ls with
  | some r,some rs=>some (r::rs)
  | _,_=>none
def Ba (σ:S) (i:Nat):Nat->List AL->List (Option (List LT×List M×List (List T)))
 | _,[]=>[]
 | j,a::as=>(match a with
  | .own ..=>(match (σ.k [i,j]).ch with | .row es ms rows=>some (es,ms,rows) | _=>none)
  | _=>none)::Ba σ i (j+1) as
def aha (σ:S) (i:Nat) (a:Arg):List (Option (List LT×List M×List (List T))) :=
 match a with | .one a=>Ba σ i 0 [a] | .agg as=>Ba σ i 0 as | .bx as=>Ba σ i 0 as | _=>[]
def vM (σ:S):Nat->List Arg->List (List (Option (List LT×List M×List (List T))))
 | _,[]=>[]
 | i,a::as=>aha σ i a::vM σ (i+1) as
def Ct (σ:S) (np:Nat):Nat->List Arg->Option (List (Option (List RL)))
 | _,[]=>some []
 | i,.bx _::as=>(match (σ.k [i,uL]).ch with
  | .box ls=>(match kN σ np ls,Ct σ np (i+1) as with
   | some r,some rs=>some (some r::rs)
   | _,_=>none)
  | _=>none)
 | i,_::as=>(Ct σ np (i+1) as).map (none :: ·)
def iE (rl:RL):List Key:=match rl with | .own k _ _ _=>[k] | _=>[]
def iF (o:Option (List RL)):List Key:=match o with | some ls=>ls.flatMap iE | none=>[]
def dN:RE->List Key
 | .one (.own k _ _ _)=>[k]
 | .agg ls=>ls.filterMap fun l=>match l with | .own k _ _ _=>some k | _=>none
 | .bx k ls=>k::ls.flatMap iE
 | _=>[]
def zh:List Key->Bool
 | []=>true
 | k::ks=>!(ks.any (dD k))&&zh ks
def ads (σ:S):List ResultVar->Option (List eU)
 | []=>some []
 | .tmp t::rs=>(ads σ rs).map fun es=>σ.s t::es
 | .cell a t::rs=>match Γ.ty t,σ.s a with
  | some ti,.ptr k m _ off=>cond (Nat.beq (σ.k k).bM m) (match (σ.k k).ch with
    | .box ls=>cond (Nat.ble (off+ti.aR.length) ls.length) ((ads σ rs).map fun es=>HV (zm ti.kind) ((ls.drop off).take ti.aR.length)::es) none
    | _=>none) none
  | _,_=>none
def GD (fn:Func) (args:List Arg) (σ:S):R3 fZ :=
 let np:=args.length
 match ads Γ σ fn.results.toList with
 | none=>.bad
 | some es =>
  match M6 σ np es with
  | some rs=>(match Ct σ np 0 args with
   | some bs=>cond (zh (rs.flatMap dN++bs.flatMap iF)) (.ok ⟨rs,vM σ 0 args,bs⟩) .bad
   | none=>.bad)
  | none=>.bad
def Cu:List ResultVar->Prog->Prog
 | [],p=>p
 | .tmp t::rs,p=>.Cq t fun e=>(match e with | .one l=>yh l (Cu rs p) | .agg ls=>D5 ls (Cu rs p) | _=>Cu rs p)
 | .cell a _::rs,p=>.Cq a fun e=>(match e with | .ptr k _ _ _=>.eY k fun ke=>(match ke.ch with | .box ls=>D5 ls (Cu rs p) | _=>Cu rs p) | _=>Cu rs p)
def EL (nk:Key) (l:Leaf) (k:Leaf->Prog):Prog :=
 match l.st with
 | .al key n=>cond (dD key nk) (k l) (.eY key fun ke=>cond (Nat.beq ke.bM n) (match ke.ch with
   | .row es ms rows=>.eY nk fun kn=>.bE nk ⟨.row es ms rows,kn.bM+1,kn.cv+1⟩ (.bE key ⟨.gone,ke.bM+1,ke.cv+1⟩ (k ⟨.al nk (kn.bM+1),.sl es,.l []⟩))
   | _=>k l) (k l))
 | _=>k l
def amI:M->PM | .F=>.R | .O ms=>.O ms
def ak9:M->Bool | .O [.O []]=>true | _=>false
def Sm (nk:Key) (m:M) (l:Leaf) (k:Leaf->Prog):Prog :=
 cond (ak9 m) (k l) <| match l.st with
 | .nl=>wo nk (amI m) l [] fun l _=>k l
 | .al key _=>(match m with
  | .O ms=>.eY key fun ke=>(match ke.ch with
   | .row _ ms0 _=>cond (M.uP ms0 ms) (wo nk (.O ms) l [] fun l _=>EL nk l k) (EL nk l k)
   | _=>EL nk l k)
  | .F=>EL nk l k)
 | _=>k l
def D6 (base:Nat):Nat->List M->List Leaf->(List Leaf->Prog)->Prog
 | _,_,[],k=>k []
 | j,ms,l::ls,k=>Sm [6000000,base,j] (ms.headD .F) l fun l=>D6 base (j+1) ms.tail ls fun ls=>k (l::ls)
def aks (ls:List Leaf):Bool:=ls.any fun l=>match l.st with | .nl=>true | .al _ _=>true | _=>false
def Pd (base:Nat) (ms:List M) (key:Key) (n:Nat) (p:Prog):Prog :=
 .eY key fun ke=>cond (Nat.beq ke.bM n) (match ke.ch with
  | .box ls=>cond (aks ls) (D6 base 0 ms ls fun ls'=>.eY key fun ke=>.fU (Nat.beq ke.bM n) (match ke.ch with
   | .box ls0=>.fU (Nat.beq ls'.length ls0.length) (.bE key ⟨.box ls',ke.bM,ke.cv+1⟩ p)
   | _=>.fail)) p
  | _=>p) p
def xg (f:FuncId):Nat->List ResultVar->Prog->Prog
 | _,[],p=>p
 | q,.tmp t::rs,p=>.Cq t fun e=>(match e with
  | .one l=>Sm [6000000,q,0] ((Γ.can f q).headD .F) l fun l=>.kJ t (.one l) (xg f (q+1) rs p)
  | .agg ls=>cond (aks ls) (D6 q 0 (Γ.can f q) ls fun ls=>.kJ t (.agg ls) (xg f (q+1) rs p)) (xg f (q+1) rs p)
  | .ptr k n _ _=>Pd q (Γ.can f q) k n (xg f (q+1) rs p)
  | _=>xg f (q+1) rs p)
 | q,.cell a _::rs,p=>.Cq a fun e=>(match e with | .ptr k n _ _=>Pd q (Γ.can f q) k n (xg f (q+1) rs p) | _=>xg f (q+1) rs p)
def M7 (f:FuncId):Nat->List Arg->Prog->Prog
 | _,[],p=>p
 | i,.bx _::as,p=>Pd (1000+i) (Γ.can f (1000+i)) [i,uL] 0 (M7 f (i+1) as p)
 | i,_::as,p=>M7 f (i+1) as p
def Bb (f:FuncId) (fn:Func) (args:List Arg):Prog :=
 let p:=xg Γ f 0 fn.results.toList (M7 Γ f 0 args .ret)
 cond (Γ.ret f) (Cu fn.results.toList p) p
def M8 (fn:Func):Nat:=fn.results.foldl (fun m r=>match r with | .tmp t=>m ||| bit t | .cell t _=>m ||| bit t) 0
def akt:AL->Bool | .own ..=>true | _=>false
def M9 (args:List Arg):Nat:=args.zipIdx.foldl (fun m (a,i)=>cond (match a with | .one l=>akt l | .agg ls=>ls.any akt | .bx _=>true | _=>false) (m ||| bit i) m) 0
def Ia (jv:FuncId->Option (List Arg->R3 fZ)):Nat->FuncId->List Arg->R3 fZ
 | 0,_,_=>.bad
 | n+1,f,args =>
  match jv f with
  | some g=>g args
  | none =>
   match Γ.fn f with
   | none=>.bad
   | some fn =>
    match fn.body with
    | none=>.bad
    | some c =>
     let fi:Fi:=⟨f,args.length,fn.ntmps,M8 fn ||| M9 args⟩
     cond (Nat.ble args.length 1000000&&Nat.ble args.length fn.ntmps) (ng Γ (Ia jv n) (Kz Γ (Ia jv n) fi n) fi [] fi.ret c (mZ (Pb args)) fun ctl σ=>match ctl with
      | .exit _=>.bad
      | _=>(Bb Γ f fn args).run (Ia jv n) σ {} fun σ _=>GD Γ fn args σ) .bad
end ops
end Go.E

namespace Go.E
abbrev tO:List LT:=[.sc (.int .i64),.sc (.str),.sc (.str)]
abbrev tP:List LT:=[.sc (.str),.sc (.str)]
abbrev tR:List LT:=[.sc (.int .i64),.sc (.int .i64),.sl tO]
abbrev tS:List LT:=[.sc (.int .i64),.sl tR,.sc (.int .i64),.sl [.sc (.str),.sc (.str)],.sl tR]
abbrev tJ:List LT:=[.sc (.int .i64),.sl tO,.sc (.int .i64),.sl [.sc (.int .i64)]]
abbrev tW:List LT:=[.sc (.int .i64),.sc (.int .i64),.sc (.int .i64),.sl tO,.sc (.bool)]
abbrev tB:List LT:=[.sc (.int .i64),.sl tO]
abbrev tC:List LT:=[.sc (.int .i64),.sc (.bool)]
abbrev tI:List LT:=[.sc (.int .i64)]
abbrev tT:List LT:=[.sc (.str)]
abbrev tU:List LT:=[.sc (.int .u8)]
abbrev mS:List M:=[.F,.O [.F,.F,.F],.F,.O [.F,.F],.O [.F,.F,.F]]
abbrev m5:List M:=[.F,.F,.F,.F,.F]
abbrev m4:List M:=[.F,.F,.F,.F]
abbrev m3:List M:=[.F,.F,.F]
abbrev m2:List M:=[.F,.F]
end Go.E

namespace Go.E
open Go
abbrev aA:=Nat->Nat->Prop
def aA.or (A B:aA):aA:=fun b o=>A b o\/B b o
def aA.apart (A B:aA):Prop:=∀ b o,A b o->B b o->False
def cellAt (w:World) (b o:Nat):Option Value:=w.cell? ⟨b,o,none⟩
def Single (v:Value):Prop:=(∀ cs,v ≠ .agg cs)/\(∀ vs,v ≠ .tuple vs)
theorem Single.cells {v:Value} (h:Single v):v.cells = #[v]:=by
 cases v <;> first | rfl | exact absurd rfl (h.1 _)
def Pe:ST->Value->T->Prop
 | .int k,c,d=>∃ n,c = .int k n/\d = .i n/\k.min<=n/\n<=k.max
 | .bool,c,d=>∃ b,c = .bool b/\d = .b b
 | .str,c,d=>∃ s,c = .string s/\d = .s s/\s.size<9223372036854775808
 | .any,c,d=>d = .x c/\Single c
mutual
def aJ (w:World) (S:aA):LT->Value->T->Prop
 | .sc s,c,d=>Pe s c d
 | .sl es,c,d=>∃ a cap rows,d = .l rows/\c = .slice a rows.length cap/\rows.length<=cap/\rows.length<=aK /\
   (rows=[] \/ ∃ b o,a=some ⟨b,o,none⟩ /\ ∀ i (h:i<rows.length),bW w S S es b (o+i * es.length) rows[i])
def bW (w:World) (A S:aA):List LT->Nat->Nat->List T->Prop
 | [],_,_,row=>row=[]
 | e::es,b,o,row=>∃ d rest v,row=d::rest/\A b o/\cellAt w b o=some v/\aJ w S e v d/\bW w A S es b (o+1) rest
end
theorem Pe.single {s:ST} {c:Value} {d:T} (h:Pe s c d):Single c:=by
 cases s
 ·obtain ⟨n,rfl,-⟩:=h; exact ⟨fun _ h=>(nomatch h),fun _ h=>(nomatch h)⟩
 ·obtain ⟨n,rfl,-⟩:=h; exact ⟨fun _ h=>(nomatch h),fun _ h=>(nomatch h)⟩
 ·obtain ⟨n,rfl,-⟩:=h; exact ⟨fun _ h=>(nomatch h),fun _ h=>(nomatch h)⟩
 ·exact h.2
theorem aJ.single {w:World} {S:aA} {lt:LT} {c:Value} {d:T} (h:aJ w S lt c d):Single c:=by
 cases lt with
 | sc s=>unfold aJ at h; exact h.single
 | sl es=>unfold aJ at h; obtain ⟨a,cap,rows,-,rfl,-⟩:=h; exact ⟨fun _ h=>(nomatch h),fun _ h=>(nomatch h)⟩
mutual
theorem aJ.mono {w w':World} {S S':aA} (hs : ∀ b o,S b o->S' b o) (hw : ∀ b o,S b o->cellAt w' b o=cellAt w b o) :
  ∀ (lt:LT) {c:Value} {d:T},aJ w S lt c d->aJ w' S' lt c d
 | .sc s,c,d,h=>by unfold aJ at *; exact h
 | .sl es,c,d,h=>by
  unfold aJ at h ⊢
  obtain ⟨a,cap,rows,h1,h2,h3,h4,h6⟩:=h
  refine ⟨a,cap,rows,h1,h2,h3,h4,?_⟩
  rcases h6 with h6 | ⟨b,o,ha,h6⟩
  ·exact .inl h6
  ·exact .inr ⟨b,o,ha,fun i hi=>bW.mono hs hw hs hw es (h6 i hi)⟩
theorem bW.mono {w w':World} {A A' S S':aA} (ha : ∀ b o,A b o->A' b o) (hwa : ∀ b o,A b o->cellAt w' b o=cellAt w b o)
  (hs : ∀ b o,S b o->S' b o) (hw : ∀ b o,S b o->cellAt w' b o=cellAt w b o) :
  ∀ (es:List LT) {b o:Nat} {row:List T},bW w A S es b o row->bW w' A' S' es b o row
 | [],b,o,row,h=>by unfold bW at *; exact h
 | e::es,b,o,row,h=>by
  unfold bW at h ⊢
  obtain ⟨d,rest,v,h1,h2,h3,h4,h5⟩:=h
  exact ⟨d,rest,v,h1,ha _ _ h2,(hwa _ _ h2).trans h3,aJ.mono hs hw e h4,bW.mono ha hwa hs hw es h5⟩
end
theorem dW : ∀ (a b:Key),dD a b=true ↔ a=b
 | [],[]=>by simp [dD]
 | [],_::_=>by simp [dD]
 | _::_,[]=>by simp [dD]
 | a::as,b::bs=>by simp [dD,dW as bs]
theorem fD (a:Key):dD a a=true:=(dW a a).2 rfl
def noO (ms:List M):Prop:=∀ m∈ms,∀ x,m ≠ .O x
def Block (w:World) (b:Nat) (c:Array Value) (el:TypeId) (fz:Nat×Nat):Prop:=w.heap[b]? = some (.cells c el fz)
def aM (p:List Value->List T->List Nat->Prop) (sz:Nat):List (List T)->List Value->List Nat->Prop
 | [],_,bs=>bs=[]
 | r::rs,cs,bs=>∃ b1 b2,bs=b1++b2/\p (cs.take sz) r b1/\aM p sz rs (cs.drop sz) b2
mutual
def bQ (w:World) (I:aA):LT->M->Value->T->List Nat->Prop
 | .sc s,_,v,d,bs=>Pe s v d/\bs=[]
 | .sl es,.F,v,d,bs=>aJ w I (.sl es) v d/\bs=[]
 | .sl es,.O ms,v,d,bs=>∃ rows,d = .l rows/\es≠[]/\rows.length<=aK/\(((∃ a,v = .slice a 0 0)/\rows=[]/\bs=[]) \/
   ∃ b cap c el fz bs',bs=b::bs'/\v = .slice (some ⟨b,0,none⟩) rows.length cap/\rows.length<=cap/\Block w b c el fz/\c.size=cap * es.length/\(∀ o,o<=c.size->¬ (fz.1<=o/\o<fz.2)) /\
    aM (fun vs ds bs=>ay w I es ms vs ds bs) es.length rows c.toList bs')
def ay (w:World) (I:aA):List LT->List M->List Value->List T->List Nat->Prop
 | [],_,vs,ds,bs=>vs=[]/\ds=[]/\bs=[]
 | e::es,ms,vs,ds,bs=>∃ v vs' d ds' b1 b2,vs=v::vs'/\ds=d::ds'/\bs=b1++b2/\bQ w I e (ms.headD .F) v d b1/\ay w I es ms.tail vs' ds' b2
end
def oV (w:World) (b:Nat):Nat:=match w.heap[b]? with | some (.cells c _ _)=>c.size | _=>0
def eZ (w:World):List Nat->Prop
 | []=>True
 | b::bs=>(b∈bs->oV w b=0)/\eZ w bs
def FB (w:World) (bs:List Nat):aA:=fun b o=>b∈bs/\o<oV w b
def aY (w:World) (I:aA) (es:List LT) (ms:List M) (rows:List (List T)) (h:Value) (F:aA):Prop :=
 ∃ bs,eZ w bs/\bQ w I (.sl es) (.O ms) h (.l rows) bs /\ ∀ b o,F b o ↔ FB w bs b o
structure Gh where
 h:Key->Value
 F:Key->aA
 D:aA
def Live:Ch->Prop
 | .box _=>True
 | .row _ _ _=>True
 | .Hz _ _ _=>True
 | .hol _ _ _ _ _=>True
 | _=>False
def bX (κ:Key->KE) (g:Gh) (I:aA) (ds:List ED):aA:=fun b o=>I b o \/ ∃ d∈ds,(d.1=sP/\g.D b o)\/(Live (κ d.1).ch/\g.F d.1 b o)
def Cur (κ:Key->KE) (ds:List ED):Prop:=∀ d∈ds,(κ d.1).cv=d.2
def Old (κ:Key->KE) (ds:List ED):Prop:=∀ d∈ds,d.2<=(κ d.1).cv
def aju:LT->Prop | .sl _=>True | _=>False
def addrIn (esz:Nat) (h:Value) (i off:Nat):Option (Nat×Nat) :=
 match h with
 | .pointer (some ⟨b,o,none⟩)=>some (b,o+off)
 | .slice (some ⟨b,o,none⟩) _ _=>some (b,o+i * esz+off)
 | _=>none
def mh:Ch->Nat
 | .row es _ _=>es.length
 | .fz es _=>es.length
 | .hol es _ _ _ _=>es.length
 | _=>0
def Hr (κ:Key->KE) (g:Gh) (w:World) (I:aA) (l:Leaf) (v:Value):Prop :=
 Single v/\match l.st with
 | .sc=>∃ s,l.lt = .sc s/\Pe s v l.d
 | .nl=>aju l.lt/\v = .slice none 0 0/\l.d = .l []
 | .sn ds=>aju l.lt/\Old κ ds/\(Cur κ ds->aJ w (bX κ g I ds) l.lt v l.d)
 | .sb k n cv r off=>aju l.lt/\n<=(κ k).bM/\Old κ [(k,cv)]/\(Cur κ [(k,cv)]->aJ w (bX κ g I [(k,cv)]) l.lt v l.d /\
   ((κ k).bM=n->∃ b o,addrIn (mh (κ k).ch) (g.h k) r off=some (b,o)/\cellAt w b o=some v/\bX κ g I [(k,cv)] b o))
 | .al k n=>aju l.lt/\n<=(κ k).bM/\((κ k).bM=n->v=g.h k)
 | .dead=>True
def bS (κ:Key->KE) (g:Gh) (w:World) (I:aA):List Leaf->List Value->Prop
 | [],[]=>True
 | l::ls,v::vs=>Hr κ g w I l v/\bS κ g w I ls vs
 | _,_=>False
def qF (κ:Key->KE) (g:Gh) (w:World) (I:aA):eU->Value->Prop
 | .one l,v=>Hr κ g w I l v
 | .agg ls,v=>∃ cs,v = .agg cs/\bS κ g w I ls cs.toList
 | .ptr k n i off,v=>Single v/\n<=(κ k).bM/\((κ k).bM=n->∃ b o,v = .pointer (some ⟨b,o,none⟩)/\addrIn (mh (κ k).ch) (g.h k) i off=some (b,o))
 | .rp ds aR row,v=>Single v/\Old κ ds/\(Cur κ ds->∃ b o,v = .pointer (some ⟨b,o,none⟩)/\bW w (bX κ g I ds) (bX κ g I ds) aR b o row)
 | .und,v=>v=undef
 | .junk,_=>True
 | _,_=>False
def oN (κ:Key->KE) (g:Gh) (w:World) (I:aA):List eU->List Value->Prop
 | [],[]=>True
 | l::ls,v::vs=>qF κ g w I l v/\oN κ g w I ls vs
 | _,_=>False
def jw (κ:Key->KE) (g:Gh) (w:World) (I:aA):eU->Value->Prop
 | .SK es,v=>∃ vs,v = .tuple vs/\oN κ g w I es vs.toList
 | .fn f caps,v=>∃ vs,v = .func (.func f) #[] vs/\oN κ g w I caps vs.toList
 | e,v=>qF κ g w I e v
def mF (κ:Key->KE) (g:Gh) (w:World) (I:aA) (ls:List Leaf) (h:Value) (F:aA):Prop :=
 ∃ b o c el fz,h = .pointer (some ⟨b,o,none⟩)/\Block w b c el fz/\o+ls.length<=c.size /\
  (∀ j,j<ls.length->¬ (fz.1<=o+j/\o+j<fz.2))/\(∀ b' o',F b' o' ↔ b'=b/\o<=o'/\o'<o+ls.length) /\
  bS κ g w I ls ((c.toList.drop o).take ls.length)
def Tj (κ:Key->KE) (g:Gh) (w:World) (I:aA) (k:Key) (m j:Nat) (ls:List Leaf) (h:Value) (F:aA):Prop :=
 (∃ b o c el fz,h = .pointer (some ⟨b,o,none⟩)/\Block w b c el fz/\o+m+ls.length<=c.size /\
  (∀ j,j<m+ls.length->¬ (fz.1<=o+j/\o+j<fz.2))/\(∀ b' o',F b' o' ↔ b'=b/\o+m<=o'/\o'<o+m+ls.length) /\
  bS κ g w I ls ((c.toList.drop (o+m)).take ls.length)) /\
 j<=(κ (nI k)).bM/\((κ (nI k)).bM=j->g.h (nI k)=h)
def Tk (κ:Key->KE) (g:Gh) (w:World) (I:aA) (k:Key) (es:List LT) (ms:List M) (rows:List (List T)) (r j:Nat) (h:Value) (F:aA):Prop :=
 es≠[]/\rows.length<=aK/\r<rows.length /\
 (∃ b cap c el fz B1 B2,h = .slice (some ⟨b,0,none⟩) rows.length cap/\rows.length<=cap/\Block w b c el fz/\c.size=cap * es.length/\(∀ o,o<=c.size->¬ (fz.1<=o/\o<fz.2)) /\
  aM (fun vs ds bs=>ay w I es ms vs ds bs) es.length (rows.take r) c.toList B1 /\
  aM (fun vs ds bs=>ay w I es ms vs ds bs) es.length (rows.drop (r+1)) (c.toList.drop ((r+1) * es.length)) B2 /\
  eZ w (b::(B1++B2))/\(∀ b' o',F b' o' ↔ (b'=b/\o'<c.size /\ ¬ (r * es.length<=o'/\o'<(r+1) * es.length))\/FB w (B1++B2) b' o') /\
  j<=(κ (iy k)).bM/\((κ (iy k)).bM=j->g.h (iy k) = .pointer (some ⟨b,r * es.length,none⟩)))
def KC (κ:Key->KE) (g:Gh) (w:World) (I:aA) (k:Key):Ch->Prop
 | .box ls=>mF κ g w I ls (g.h k) (g.F k)
 | .Hz m j ls=>Tj κ g w I k m j ls (g.h k) (g.F k)
 | .row es ms rows=>aY w I es ms rows (g.h k) (g.F k)
 | .hol es ms rows r j=>Tk κ g w I k es ms rows r j (g.h k) (g.F k)
 | .fz es rows=>aJ w I (.sl es) (g.h k) (.l rows)
 | .gone=>True
def fP (np:Nat):Key->Prop
 | i::_=>i<np
 | []=>False
structure Fr where
 nt:Nat
 np:Nat
 big:np<=1000000
 H:Key->Value
 D:aA
 A:aA
 B:aA
def Im (n:Fr) (I:aA):aA:=fun b o=>I b o\/n.A b o
structure RX (n:Fr) (κ:Key->KE) (g:Gh) (I:aA) (w:World):Prop where
 par : ∀ k,fP n.np k->Live (κ k).ch->g.h k=n.H k
 dq:g.D=n.D
 da : ∀ b o,g.D b o->n.A b o
 wC : ∀ k,Live (κ k).ch->aA.apart (g.F k) n.A
 awf : ∀ b o,n.A b o->∃ v,cellAt w b o=some v
 ia : ∀ b o,I b o->n.A b o->n.B b o
structure R (n:Fr) (σ:S) (g:Gh) (I:aA) (a:Act) (w:World):Prop where
 size:a.tmps.size=n.nt
 nd:a.defers=[]
 slots : ∀ t,jw σ.k g w I (σ.s t) (a.tmps.getD t undef)
 uH : ∀ k,KC σ.k g w I k (σ.k k).ch
 sep : ∀ k k',Live (σ.k k).ch->Live (σ.k k').ch->k≠k'->aA.apart (g.F k) (g.F k')
 jm : ∀ k,Live (σ.k k).ch->aA.apart (g.F k) I
 zA : ∀ b o,I b o->∃ v,cellAt w b o=some v
 x:RX n σ.k g I w
def oW (I:aA) (b:Nat) (x y:Obj):Prop :=
 match x with
 | .cells c el fz=>∃ c',y = .cells c' el fz/\c'.size=c.size /\ ∀ o,I b o->c'[o]? = c[o]?
 | _=>y=x
structure Keeps (I:aA) (w w':World):Prop where
 size:w.heap.size<=w'.heap.size
 obj : ∀ b x,w.heap[b]? = some x->∃ y,w'.heap[b]? = some y/\oW I b x y
 os:w'.os=w.os
 output:w'.output=w.output
 tape:w'.tape=w.tape
theorem oW.refl (I:aA) (b:Nat) (x:Obj):oW I b x x:=by
 cases x <;> first | exact ⟨_,rfl,rfl,fun _ _=>rfl⟩ | rfl
theorem Keeps.refl (I:aA) (w:World):Keeps I w w:=⟨Nat.le_refl _,fun _ _ h=>⟨_,h,.refl _ _ _⟩,rfl,rfl,rfl⟩
theorem oW.trans {I J:aA} {b:Nat} {x y z:Obj} (hij : ∀ o,I b o->J b o) (h:oW I b x y) (h':oW J b y z):oW I b x z:=by
 cases x <;> simp only [oW] at h ⊢ <;> try (subst h; simpa [oW] using h')
 obtain ⟨c',rfl,h1,h2⟩:=h
 simp only [oW] at h'
 obtain ⟨c'',rfl,h3,h4⟩:=h'
 exact ⟨c'',rfl,h3.trans h1,fun o ho=>(h4 o (hij o ho)).trans (h2 o ho)⟩
theorem Keeps.trans {I J:aA} {w w' w'':World} (hij : ∀ b o,I b o->J b o) (h:Keeps I w w') (h':Keeps J w' w''):Keeps I w w'' :=
 ⟨Nat.le_trans h.size h'.size,fun b x hx=>by
  obtain ⟨y,hy,h1⟩:=h.obj b x hx
  obtain ⟨z,hz,h2⟩:=h'.obj b y hy
  exact ⟨z,hz,h1.trans (hij b) h2⟩,h'.os.trans h.os,h'.output.trans h.output,h'.tape.trans h.tape⟩
theorem Keeps.cell {I:aA} {w w':World} (h:Keeps I w w') {b o:Nat} (hi:I b o) (hv : ∃ v,cellAt w b o=some v):cellAt w' b o=cellAt w b o:=by
 obtain ⟨v,hv⟩:=hv
 unfold cellAt World.cell? at hv ⊢
 simp only at hv ⊢
 cases hx:w.heap[b]? with
 | none=>simp [hx] at hv
 | some x =>
  obtain ⟨y,hy,hk⟩:=h.obj b x hx
  cases x with
  | cells c el fz =>
   obtain ⟨c',rfl,-,h2⟩:=hk
   simp [hy,h2 o hi]
  | _=>simp [hx] at hv
theorem RX.step {n:Fr} {κ κ':Key->KE} {g g':Gh} {I I':aA} {w w':World} (h:RX n κ g I w) (hk:Keeps n.A w w') (hd:g'.D=g.D)
  (hl : ∀ k,Live (κ' k).ch->(fP n.np k->Live (κ k).ch/\g'.h k=g.h k\/g'.h k=n.H k)/\aA.apart (g'.F k) n.A) (hi : ∀ b o,I' b o->I b o \/ ¬ n.A b o):RX n κ' g' I' w' where
 par k hp hv:=by
  rcases (hl k hv).1 hp with ⟨h1,h2⟩ | h1
  ·rw [h2]; exact h.par k hp h1
  ·exact h1
 dq:=hd.trans h.dq
 da b o hb:=h.da b o (hd ▸ hb)
 wC k hv:=(hl k hv).2
 awf b o ha:=by
  obtain ⟨v,hv⟩:=h.awf b o ha
  exact ⟨v,(hk.cell ha ⟨v,hv⟩).trans hv⟩
 ia b o h1 h2:=(hi b o h1).elim (fun h3=>h.ia b o h3 h2) fun h3=>absurd h2 h3
structure fM (κ:Key->KE) (g:Gh) (w:World) (I:aA) (κ':Key->KE) (g':Gh) (w':World) (I':aA):Prop where
 cv : ∀ k,(κ k).cv<=(κ' k).cv
 bM : ∀ k,(κ k).bM<=(κ' k).bM
 foot : ∀ k,(κ' k).cv=(κ k).cv->Live (κ k).ch->∀ b o,g.F k b o->((Live (κ' k).ch/\g'.F k b o)\/I' b o)/\cellAt w' b o=cellAt w b o
 head : ∀ k,(κ' k).bM=(κ k).bM->g'.h k=g.h k/\mh (κ' k).ch=mh (κ k).ch
 jm : ∀ b o,I b o->I' b o/\cellAt w' b o=cellAt w b o
 dd : ∀ b o,g.D b o->g'.D b o/\cellAt w' b o=cellAt w b o
section evo
variable {κ κ':Key->KE} {g g':Gh} {w w':World} {I I':aA}
theorem fM.cur (e:fM κ g w I κ' g' w' I') {ds:List ED} (ho:Old κ ds) (hc:Cur κ' ds):Cur κ ds:=fun d hd=>by
 have h1:=e.cv d.1; have h2:=ho d hd; have h3:=hc d hd; omega
theorem fM.old (e:fM κ g w I κ' g' w' I') {ds:List ED} (ho:Old κ ds):Old κ' ds:=fun d hd=>Nat.le_trans (ho d hd) (e.cv d.1)
theorem fM.dep (e:fM κ g w I κ' g' w' I') {ds:List ED} (ho:Old κ ds) (hc:Cur κ' ds) :
  ∀ b o,bX κ g I ds b o->bX κ' g' I' ds b o/\cellAt w' b o=cellAt w b o:=by
 intro b o h
 rcases h with h | ⟨d,hd,⟨hk,hf⟩ | ⟨hl,hf⟩⟩
 ·exact ⟨.inl (e.jm b o h).1,(e.jm b o h).2⟩
 ·exact ⟨.inr ⟨d,hd,.inl ⟨hk,(e.dd b o hf).1⟩⟩,(e.dd b o hf).2⟩
 ·have h1:=e.cur ho hc d hd
  obtain ⟨h2,h3⟩:=e.foot d.1 ((hc d hd).trans h1.symm) hl b o hf
  exact ⟨h2.elim (fun h=>.inr ⟨d,hd,.inr h⟩) .inl,h3⟩
theorem fM.leaf (e:fM κ g w I κ' g' w' I') {lt:LT} {v:Value} {d:T} (h:aJ w I lt v d):aJ w' I' lt v d :=
 aJ.mono (fun b o h=>(e.jm b o h).1) (fun b o h=>(e.jm b o h).2) lt h
theorem fM.lf (e:fM κ g w I κ' g' w' I') {l:Leaf} {v:Value} (h:Hr κ g w I l v):Hr κ' g' w' I' l v:=by
 obtain ⟨hs,h⟩:=h
 refine ⟨hs,?_⟩
 cases hst:l.st with
 | sc=>simpa [hst] using h
 | nl=>simpa [hst] using h
 | sn ds =>
  simp only [hst] at h ⊢
  obtain ⟨h1,h2,h3⟩:=h
  exact ⟨h1,e.old h2,fun hc=>aJ.mono (fun b o hb=>(e.dep h2 hc b o hb).1) (fun b o hb=>(e.dep h2 hc b o hb).2) _ (h3 (e.cur h2 hc))⟩
 | al k n =>
  simp only [hst] at h ⊢
  obtain ⟨h1,h2,h3⟩:=h
  have:=e.bM k
  refine ⟨h1,Nat.le_trans h2 this,fun hc=>?_⟩
  have h4:(κ k).bM=n:=by omega
  rw [(e.head k (hc.trans h4.symm)).1]; exact h3 h4
 | sb k n cv r off =>
  simp only [hst] at h ⊢
  obtain ⟨h1,h2,h3,h4⟩:=h
  refine ⟨h1,Nat.le_trans h2 (e.bM k),e.old h3,fun hc=>?_⟩
  obtain ⟨h5,h6⟩:=h4 (e.cur h3 hc)
  refine ⟨aJ.mono (fun b o hb=>(e.dep h3 hc b o hb).1) (fun b o hb=>(e.dep h3 hc b o hb).2) _ h5,fun hi=>?_⟩
  have h7:(κ k).bM=n:=by have:=e.bM k; omega
  obtain ⟨b,o,h8,h9,h10⟩:=h6 h7
  obtain ⟨h11,h12⟩:=e.head k (hi.trans h7.symm)
  exact ⟨b,o,by rw [h11,h12]; exact h8,(e.dep h3 hc b o h10).2.trans h9,(e.dep h3 hc b o h10).1⟩
 | dead=>trivial
theorem fM.lfs (e:fM κ g w I κ' g' w' I') : ∀ {ls:List Leaf} {vs:List Value},bS κ g w I ls vs->bS κ' g' w' I' ls vs
 | [],[],_=>trivial
 | _::_,_::_,h=>⟨e.lf h.1,e.lfs h.2⟩
 | [],_::_,h=>h.elim
 | _::_,[],h=>h.elim
theorem fM.Wq (e:fM κ g w I κ' g' w' I') {x:eU} {v:Value} (h:qF κ g w I x v):qF κ' g' w' I' x v:=by
 cases x with
 | one l=>exact e.lf h
 | agg ls=>obtain ⟨cs,h1,h2⟩:=h; exact ⟨cs,h1,e.lfs h2⟩
 | ptr k n i off =>
  obtain ⟨h0,h1,h2⟩:=h
  have:=e.bM k
  refine ⟨h0,Nat.le_trans h1 this,fun hc=>?_⟩
  have h4:(κ k).bM=n:=by omega
  obtain ⟨h5,h6⟩:=e.head k (hc.trans h4.symm)
  rw [h5,h6]; exact h2 h4
 | rp ds aR row =>
  obtain ⟨h0,h1,h2⟩:=h
  refine ⟨h0,e.old h1,fun hc=>?_⟩
  obtain ⟨b,o,h3,h4⟩:=h2 (e.cur h1 hc)
  exact ⟨b,o,h3,bW.mono (fun b o hb=>(e.dep h1 hc b o hb).1) (fun b o hb=>(e.dep h1 hc b o hb).2) (fun b o hb=>(e.dep h1 hc b o hb).1) (fun b o hb=>(e.dep h1 hc b o hb).2) _ h4⟩
 | und=>exact h
 | junk=>trivial
 | SK _=>exact h.elim
 | fn _ _=>exact h.elim
theorem fM.X3 (e:fM κ g w I κ' g' w' I') : ∀ {ls:List eU} {vs:List Value},oN κ g w I ls vs->oN κ' g' w' I' ls vs
 | [],[],_=>trivial
 | _::_,_::_,h=>⟨e.Wq h.1,e.X3 h.2⟩
 | [],_::_,h=>h.elim
 | _::_,[],h=>h.elim
theorem fM.ent (e:fM κ g w I κ' g' w' I') {x:eU} {v:Value} (h:jw κ g w I x v):jw κ' g' w' I' x v:=by
 cases x with
 | SK es=>obtain ⟨vs,h1,h2⟩:=h; exact ⟨vs,h1,e.X3 h2⟩
 | fn f es=>obtain ⟨vs,h1,h2⟩:=h; exact ⟨vs,h1,e.X3 h2⟩
 | one l=>exact e.Wq (x:=.one l) h
 | agg l=>exact e.Wq (x:=.agg l) h
 | ptr k n i off=>exact e.Wq (x:=.ptr k n i off) h
 | rp ds aR row=>exact e.Wq (x:=.rp ds aR row) h
 | und=>exact h
 | junk=>trivial
theorem fM.refl:fM κ g w I κ g w I :=
 ⟨fun _=>Nat.le_refl _,fun _=>Nat.le_refl _,fun _ _ hl _ _ hf=>⟨.inl ⟨hl,hf⟩,rfl⟩,fun _ _=>⟨rfl,rfl⟩,fun _ _ h=>⟨h,rfl⟩,fun _ _ h=>⟨h,rfl⟩⟩
theorem fM.trans {amJ:Key->KE} {g'':Gh} {w'':World} {I'':aA} (e:fM κ g w I κ' g' w' I') (e':fM κ' g' w' I' amJ g'' w'' I'') :
  fM κ g w I amJ g'' w'' I'' where
 cv k:=Nat.le_trans (e.cv k) (e'.cv k)
 bM k:=Nat.le_trans (e.bM k) (e'.bM k)
 foot k hc hl b o hf:=by
  have h1:=e.cv k; have h2:=e'.cv k
  obtain ⟨h3,h4⟩:=e.foot k (by omega) hl b o hf
  rcases h3 with ⟨h5,h6⟩ | h5
  ·obtain ⟨h7,h8⟩:=e'.foot k (by omega) h5 b o h6
   exact ⟨h7,h8.trans h4⟩
  ·exact ⟨.inr (e'.jm b o h5).1,(e'.jm b o h5).2.trans h4⟩
 head k hc:=by
  have h1:=e.bM k; have h2:=e'.bM k
  obtain ⟨h3,h4⟩:=e.head k (by omega)
  obtain ⟨h5,h6⟩:=e'.head k (by omega)
  exact ⟨h5.trans h3,h6.trans h4⟩
 jm b o h:=⟨(e'.jm b o (e.jm b o h).1).1,(e'.jm b o (e.jm b o h).1).2.trans (e.jm b o h).2⟩
 dd b o h:=⟨(e'.dd b o (e.dd b o h).1).1,(e'.dd b o (e.dd b o h).1).2.trans (e.dd b o h).2⟩
end evo
end Go.E

namespace Go.E
open Go
def Prog.wp (cf:FuncId->List Arg->R3 fZ):Prog->S->Tr->(S->Tr->Prop)->Prop
 | .ret,σ,tr,Q=>Q σ tr
 | .fail,_,_,_=>False
 | .out,_,_,_=>True
 | .fU c p,σ,tr,Q=>c=true/\p.wp cf σ tr Q
 | .lim c p,σ,tr,Q=>c=true->p.wp cf σ tr Q
 | .br c p q,σ,tr,Q=>if c then p.wp cf σ tr Q else q.wp cf σ tr Q
 | .Cq t k,σ,tr,Q=>(k (σ.s t)).wp cf σ { tr with rs:=t::tr.rs } Q
 | .kJ t e p,σ,tr,Q=>p.wp cf (σ.kJ t e) { tr with ws:=t::tr.ws } Q
 | .eY k c,σ,tr,Q=>(c (σ.k k)).wp cf σ { tr with rk:=k::tr.rk } Q
 | .bE k e p,σ,tr,Q=>p.wp cf (σ.bE k e) { tr with wk:=k::tr.wk } Q
 | .call f args k,σ,tr,Q=>match cf f args with
  | .ok r=>(k r).wp cf σ tr Q
  | .out=>True
  | .bad=>False
theorem Prog.qh {cf:FuncId->List Arg->R3 fZ} {α:Type} : ∀ (p:Prog) (σ:S) (tr:Tr) (K:S->Tr->R3 α),
  p.run cf σ tr K ≠ .bad->p.wp cf σ tr fun σ tr=>K σ tr ≠ .bad
 | .ret,σ,tr,K,h=>h
 | .fail,_,_,_,h=>(h rfl).elim
 | .out,_,_,_,_=>trivial
 | .fU c p,σ,tr,K,h=>by
  cases c
  ·exact (h rfl).elim
  ·exact ⟨rfl,Prog.qh p σ tr K h⟩
 | .lim c p,σ,tr,K,h=>fun _=>Prog.qh p σ tr K h
 | .br c p q,σ,tr,K,h=>by
  cases c
  ·exact Prog.qh q σ tr K h
  ·exact Prog.qh p σ tr K h
 | .Cq t k,σ,tr,K,h=>Prog.qh (k (σ.s t)) σ _ K h
 | .kJ t e p,σ,tr,K,h=>Prog.qh p _ _ K h
 | .eY k c,σ,tr,K,h=>Prog.qh (c (σ.k k)) σ _ K h
 | .bE k e p,σ,tr,K,h=>Prog.qh p _ _ K h
 | .call f args k,σ,tr,K,h=>by
  simp only [Prog.run,R3.bind] at h
  simp only [Prog.wp]
  cases hc:cf f args with
  | ok r=>simp only [hc] at h; exact Prog.qh (k r) σ tr K h
  | out=>trivial
  | bad=>simp [hc] at h
theorem Prog.wp_mono {cf:FuncId->List Arg->R3 fZ} {Q Q':S->Tr->Prop} (hq : ∀ σ tr,Q σ tr->Q' σ tr) : ∀ (p:Prog) (σ:S) (tr:Tr),
  p.wp cf σ tr Q->p.wp cf σ tr Q'
 | .ret,σ,tr,h=>hq _ _ h
 | .fail,_,_,h=>h
 | .out,_,_,_=>trivial
 | .fU c p,σ,tr,h=>⟨h.1,Prog.wp_mono hq p σ tr h.2⟩
 | .lim c p,σ,tr,h=>fun hc=>Prog.wp_mono hq p σ tr (h hc)
 | .br c p q,σ,tr,h=>by
  cases c
  ·exact Prog.wp_mono hq q σ tr (by simpa [Prog.wp] using h)
  ·exact Prog.wp_mono hq p σ tr (by simpa [Prog.wp] using h)
 | .Cq t k,σ,tr,h=>Prog.wp_mono hq (k (σ.s t)) σ _ h
 | .kJ t e p,σ,tr,h=>Prog.wp_mono hq p _ _ h
 | .eY k c,σ,tr,h=>Prog.wp_mono hq (c (σ.k k)) σ _ h
 | .bE k e p,σ,tr,h=>Prog.wp_mono hq p _ _ h
 | .call f args k,σ,tr,h=>by
  simp only [Prog.wp] at h ⊢
  cases hc:cf f args with
  | ok r=>simp only [hc] at h ⊢; exact Prog.wp_mono hq (k r) σ tr h
  | out=>trivial
  | bad=>simp [hc] at h
def zeroV:LT->Value->Prop
 | .sc (.int k),v=>v = .int k 0
 | .sc .bool,v=>v = .bool false
 | .sc .str,v=>v = .string .empty
 | .sc .any,v=>Single v
 | .sl _,v=>v = .slice none 0 0
def EM:List LT->List Value->Prop
 | [],[]=>True
 | l::ls,v::vs=>zeroV l v/\EM ls vs
 | _,_=>False
def ahc (Γ:Ctx) (P:Program) (ti:TI):TK->TypeDesc->Prop
 | .sc (.int k),d=>d = .int k/\ti.aR=[.sc (.int k)]
 | .sc .bool,d=>d = .bool/\ti.aR=[.sc .bool]
 | .sc .str,d=>d = .string/\ti.aR=[.sc .str]
 | .sc .any,_=>False
 | .slice e,d=>d = .slice e /\ ∃ te,Γ.ty e=some te/\ti.aR=[.sl te.aR]/\te.aR≠[]
 | .struct fs,d=>∃ fields,d = .struct fields/\fs=fields.toList.map (fun f=>(f.offset,f.type)) /\
   ∀ f∈fields.toList,∃ i,P.info? f.type=some i/\i.size≠0
 | .array n e,d=>d = .array n e
 | .ptr e,d=>d = .pointer e/\ti.aR=[.sc .any]
 | .other,d=>(∀ fs,d ≠ .struct fs)/\(∀ n e,d ≠ .array n e)/\ti.aR=[.sc .any]
def Zl (P:Program):Nat->List Field->List LT->Prop
 | _,[],[]=>True
 | j,f::fs,lt::aR=>f.name ≠ "_" /\ f.offset=j/\(match lt with
   | .sc (.int k)=>P.underlying f.type=some (.int k)
   | .sc .bool=>P.underlying f.type=some .bool
   | .sc .str=>P.underlying f.type=some .string
   | _=>False)/\Zl P (j+1) fs aR
 | _,_,_=>False
def adt (P:Program) (t:TypeId) (aR:List LT):Prop :=
 ∃ fields,P.underlying t=some (.struct fields)/\P.stoodInHeld t=false/\P.eqGuardType P.depth t=false/\Zl P 0 fields.toList aR
structure uT (Γ:Ctx) (P:Program) (t:TypeId) (ti:TI):Prop where
 und : ∃ d,P.underlying t=some d/\ahc Γ P ti ti.kind d
 flat:ti.flat=true->adt P t ti.aR
 info : ∃ i,P.info? t=some i/\i.size=ti.aR.length/\ti.bytes=i.bytes/\ti.aR.length<=i.bytes/\i.bytes<=24 * ti.aR.length /\ ∃ z,i.zero=some z/\EM ti.aR z.cells.toList
structure eF (Γ:Ctx) (P:Program):Prop where
 ty : ∀ t ti,Γ.ty t=some ti->uT Γ P t ti
 fn : ∀ f fn,Γ.fn f=some fn->P.funcs[f]? = some fn
 enter : ∀ f fn,Γ.fn f=some fn->fn.body.isNone=false/\(fn.name == "runtime.NumGoroutine")=false
 mixed:P.follows .mixedOrders=true
theorem Ib {np nt:Nat} {o:Oper} {d:Nat} (hd:cZ np nt o=true) (h:o.dst=some d):d<nt/\(np<=1000000->∀ r,¬ fP np ((d+2000000)::r)):=by
 unfold cZ at hd
 rw [h] at hd
 have h2:d<nt:=by simpa [Nat.blt_eq] using hd
 exact ⟨h2,fun hb r hr=>by simp only [fP] at hr; omega⟩
def Goal (P:Program) (o:Oper) (a:Act) (w:World) (K:Act->World->Prop) (Q:Exit->Act->World->Prop):Prop :=
 o.wp P a w K Q\/(o.asks P a w/\LetsOut Q)
theorem zB {P:Program} {o:Oper} {a:Act} {w w':World} {K:Act->World->Prop} {Q:Exit->Act->World->Prop} {v:Value}
  (h:(execOp a.eval o).run P w = .ok (.value v) w') (hk:K (a.put o.dst v) w'):Goal P o a w K Q:=by
 refine .inl ?_
 unfold Oper.wp
 rw [h]
 exact hk
theorem afF {P:Program} {o:Oper} {a:Act} {w w':World} {K:Act->World->Prop} {Q:Exit->Act->World->Prop}
  (h:(execOp a.eval o).run P w = .ok .skip w') (hk:K (a.put o.dst undef) w'):Goal P o a w K Q:=by
 refine .inl ?_
 unfold Oper.wp
 rw [h]
 exact hk
section run
variable {Γ:Ctx} {P:Program} {w:World} {t:TypeId} {ti:TI}
theorem run_underlying {d:TypeDesc} (h:P.underlying t=some d):(underlying t).run P w = .ok d w:=by
 simp [underlying,h,go_sem]
end run
section slots
variable {n:Fr} {σ:S} {g:Gh} {I:aA} {a:Act} {w:World}
theorem ahd (xs:Array Value) (i j:Nat) (v u:Value) (hi:i<xs.size):(xs.setIfInBounds i v).getD j u=if j=i then v else xs.getD j u:=by
 by_cases h:j=i
 ·subst h; simp [hi]
 ·simp [h,Array.getElem?_setIfInBounds_ne (Ne.symm h)]
theorem R.put (hR:R n σ g I a w) {d:Nat} (hd:d<n.nt) {e:eU} {v:Value} (he:jw σ.k g w I e v) :
  R n (σ.kJ d e) g I (a.put (some d) v) w where
 size:=by simp [Act.put,hR.size]
 nd:=hR.nd
 slots t:=by
  have h1:(a.put (some d) v).tmps.getD t undef=if t=d then v else a.tmps.getD t undef:=ahd _ _ _ _ _ (by rw [hR.size]; exact hd)
  rw [h1]
  by_cases h:t=d
  ·subst h
   simp only [S.kJ,Nat.beq_refl,cond_true,if_true]
   exact he
  ·have h2:Nat.beq t d=false:=by cases hb:Nat.beq t d; rfl; exact absurd (Nat.eq_of_beq_eq_true hb) h
   simp only [S.kJ,h2,cond_false,if_neg h]
   exact hR.slots t
 uH:=hR.uH
 sep:=hR.sep
 jm:=hR.jm
 zA:=hR.zA
 x:=hR.x
end slots
end Go.E

namespace Go.E
open Go
section
variable {Γ:Ctx} {P:Program} {cf:FuncId->List Arg->R3 fZ}
variable {n:Fr} {σ:S} {g:Gh} {I:aA} {a:Act} {w:World}
def Post (P:Program) (n:Fr) (I:aA) (w:World) (Q:S->Tr->Prop) (K:Act->World->Prop):Prop :=
 ∀ σ' cO g' I' a' w',Q σ' cO->R n σ' g' I' a' w'->(∀ b o,I b o->I' b o)->Keeps (Im n I) w w'->K a' w'
theorem amo {v:Value} (h : ∀ cs,v ≠ .agg cs) (h' : ∀ vs,v ≠ .tuple vs):Single v:=⟨h,h'⟩
theorem Tm {v:Value} {l:Leaf} (κ:Key->KE) (h:xZ v=some l):Hr κ g w I l v:=by
 unfold xZ at h
 split at h
 ·cases h; exact ⟨⟨fun _ h=>(nomatch h),fun _ h=>(nomatch h)⟩,.bool,rfl,_,rfl,rfl⟩
 ·split at h
  ·rename_i hh; cases h; exact ⟨⟨fun _ h=>(nomatch h),fun _ h=>(nomatch h)⟩,.int _,rfl,_,rfl,rfl,hh⟩
  ·cases h
 ·split at h
  ·rename_i hh; cases h; exact ⟨⟨fun _ h=>(nomatch h),fun _ h=>(nomatch h)⟩,.str,rfl,_,rfl,rfl,hh⟩
  ·cases h
 ·cases h; exact ⟨⟨fun _ h=>(nomatch h),fun _ h=>(nomatch h)⟩,trivial,rfl,rfl⟩
 ·cases h
theorem Na (κ:Key->KE) : ∀ {vs:List Value} {ls:List Leaf},vs.mapM xZ=some ls->bS κ g w I ls vs
 | [],ls,h=>by simp at h; subst h; trivial
 | v::vs,ls,h=>by
  simp only [List.mapM_cons,Option.bind_eq_bind,Option.bind_eq_some_iff,Option.pure_def,Option.some.injEq] at h
  obtain ⟨l,h1,ls',h2,rfl⟩:=h
  exact ⟨Tm κ h1,Na κ h2⟩
theorem jo {x:Operand} {k:eU->Prog} {tr:Tr} {Q:S->Tr->Prop} (hR:R n σ g I a w) (h:(rd x k).wp cf σ tr Q) :
  ∃ e cO,jw σ.k g w I e (a.eval x)/\(k e).wp cf σ cO Q:=by
 unfold rd at h
 split at h
 ·exact ⟨_,_,hR.slots _,h⟩
 ·exact ⟨.junk,tr,trivial,h⟩
 ·unfold oF at h
  split at h
  ·rename_i ls hl; exact ⟨.agg ls,tr,⟨_,rfl,Na _ hl⟩,h⟩
  ·exact h.elim
 ·unfold oF at h
  split at h
  ·rename_i l hl; exact ⟨.one l,tr,Tm _ hl,h⟩
  ·exact h.elim
 ·rename_i f; exact ⟨.fn f [],tr,⟨#[],rfl,trivial⟩,h⟩
 ·exact h.elim
theorem dK {α:Type} {o:Option α} {k:α->Prog} {tr:Tr} {Q:S->Tr->Prop} (h:(oF o k).wp cf σ tr Q) :
  ∃ x,o=some x/\(k x).wp cf σ tr Q:=by
 unfold oF at h
 split at h
 ·exact ⟨_,rfl,h⟩
 ·exact h.elim
theorem nX {e:eU} {k:ST->T->Prog} {tr:Tr} {Q:S->Tr->Prop} {v:Value} (he:jw σ.k g w I e v) (h:(uQ e k).wp cf σ tr Q) :
  ∃ s d,e = .one ⟨.sc,.sc s,d⟩/\Pe s v d/\(k s d).wp cf σ tr Q:=by
 unfold uQ at h
 split at h
 ·obtain ⟨-,s',hs,hv⟩:=he
  cases hs
  exact ⟨_,_,rfl,hv,h⟩
 ·exact h.elim
theorem EN {e:eU} {k:Leaf->Prog} {tr:Tr} {Q:S->Tr->Prop} {v:Value} (he:jw σ.k g w I e v) (h:(Y6 e k).wp cf σ tr Q) :
  ∃ l,e = .one l/\Hr σ.k g w I l v/\(k l).wp cf σ tr Q:=by
 unfold Y6 at h
 split at h
 ·exact ⟨_,rfl,he,h⟩
 ·exact h.elim
theorem jD {o:Oper} {e:eU} {v:Value} {tr:Tr} {Q:S->Tr->Prop} {K:Act->World->Prop} {Qm:Exit->Act->World->Prop}
  (hd:cZ n.np n.nt o=true) (hR:R n σ g I a w) (hK:Post P n I w Q K)
  (hrun:(execOp a.eval o).run P w = .ok (.value v) w) (he:jw σ.k g w I e v) (h:(put o.dst e).wp cf σ tr Q):Goal P o a w K Qm:=by
 refine zB hrun ?_
 unfold put at h
 cases hds:o.dst with
 | none =>
  simp only [hds] at h ⊢
  exact hK _ _ g I _ _ h hR (fun _ _ h=>h) (Keeps.refl _ _)
 | some d =>
  simp only [hds] at h ⊢
  exact hK _ _ g I _ _ h (hR.put (Ib hd hds).1 he) (fun _ _ h=>h) (Keeps.refl _ _)
theorem mG {o:Oper} {s:ST} {d:T} {v:Value} {tr:Tr} {Q:S->Tr->Prop} {K:Act->World->Prop} {Qm:Exit->Act->World->Prop}
  (hd:cZ n.np n.nt o=true) (hR:R n σ g I a w) (hK:Post P n I w Q K)
  (hrun:(execOp a.eval o).run P w = .ok (.value v) w) (he:Pe s v d) (h:(oU o.dst s d).wp cf σ tr Q):Goal P o a w K Qm :=
 jD hd hR hK hrun (e:=.one ⟨.sc,.sc s,d⟩) ⟨he.single,s,rfl,he⟩ h
end
end Go.E

namespace Go.E
open Go
theorem Tn (k:IntKind) (x:Int):k.min<=k.wrap x/\k.wrap x<=k.max:=by
 have e8:(2:Int) ^ 8=256:=by decide
 have e7:(2:Int) ^ 7=128:=by decide
 have e16:(2:Int) ^ 16=65536:=by decide
 have e15:(2:Int) ^ 15=32768:=by decide
 have e32:(2:Int) ^ 32=4294967296:=by decide
 have e31:(2:Int) ^ 31=2147483648:=by decide
 have e64:(2:Int) ^ 64=18446744073709551616:=by decide
 have e63:(2:Int) ^ 63=9223372036854775808:=by decide
 cases k <;> simp only [IntKind.wrap,IntKind.min,IntKind.max,IntKind.bits,IntKind.signed,Bool.true_and,Bool.false_and,if_true,Bool.false_eq_true,if_false,Nat.reduceSub,e8,e7,e16,e15,e32,e31,e64,e63,decide_eq_true_eq] <;> (try split) <;> omega
theorem xk {k:IntKind} {x:Int} : Pe (.int k) (.int k (k.wrap x)) (.i (k.wrap x)):=⟨_,rfl,rfl,(Tn k x).1,(Tn k x).2⟩
theorem ni {b:Bool} : Pe .bool (.bool b) (.b b):=⟨_,rfl,rfl⟩
theorem Nb (k:IntKind):k.min<=0/\0<=k.max:=by
 cases k <;> simp [IntKind.min,IntKind.max,IntKind.bits,IntKind.signed]
theorem Tp {k:IntKind} {x y:Int} (h:k.min<=x/\x<=k.max):k.min<=x.tmod y/\x.tmod y<=k.max:=by
 have h0:=Nb k
 have h1:(x.tmod y).natAbs<=x.natAbs:=by rw [Int.natAbs_tmod]; exact Nat.mod_le _ _
 rcases Int.le_total 0 x with hx | hx
 ·have h2:=Int.tmod_nonneg y hx
  omega
 ·have h3:=Int.tmod_nonneg y (show 0<=-x by omega)
  rw [Int.neg_tmod] at h3
  omega
theorem adu {k:IntKind} {x:Int} {m:Nat} (h:k.min<=x/\x<=k.max):k.min<=x.fdiv (2 ^ m)/\x.fdiv (2 ^ m)<=k.max:=by
 have h0:=Nb k
 have hp:(0:Int)<2 ^ m:=Int.pow_pos (by decide)
 rw [Int.fdiv_eq_ediv_of_nonneg _ (by omega)]
 rcases Int.le_total 0 x with hx | hx
 ·have h2:=Int.ediv_nonneg hx (show (0:Int)<=2 ^ m by omega)
  have h3:=Int.ediv_le_self (2 ^ m) hx
  omega
 ·have h2:x<=x / 2 ^ m:=by
   rw [Int.le_ediv_iff_mul_le hp]
   have h1:(0:Int)<=2 ^ m-1:=by omega
   have:=Int.mul_nonneg (show 0<=-x by omega) h1
   have e : -x * (2 ^ m-1)=x-x * 2 ^ m:=by rw [Int.mul_sub,Int.neg_mul]; omega
   omega
  have h3:x / 2 ^ m<=0:=by
   have:=Int.ediv_le_ediv hp hx
   simpa using this
  omega
section
variable {P:Program} {w:World} {ρ:Operand->Value} {o:Oper}
theorem run_move {x:Operand} (hop:o.op = .move x\/o.op = .assign x):(execOp ρ o).run P w = .ok (.value (ρ x)) w:=by
 rcases hop with hop | hop <;> simp [execOp,hop,go_sem]
theorem ahe {c x y:Operand} {b:Bool} (hop:o.op = .pick c x y) (hb:ρ c = .bool b) :
  (execOp ρ o).run P w = .ok (.value (if b=true then ρ x else ρ y)) w:=by
 simp [execOp,hop,hb,asBool,go_sem]
theorem Zm {x:Operand} {b o':Nat} (hop:o.op = .nilCheck x) (hv:ρ x = .pointer (some ⟨b,o',none⟩)) :
  (execOp ρ o).run P w = .ok (.value (ρ x)) w:=by
 simp [execOp,hop,hv,go_sem]
theorem aa7 {x:Operand} {i:Nat} {vs:Array Value} {v:Value} (hop:o.op = .extract x i) (hv:ρ x = .tuple vs) (h:vs[i]? = some v) :
  (execOp ρ o).run P w = .ok (.value v) w:=by
 simp [execOp,hop,hv,Instr.extract,h,go_sem]
end
section
variable {Γ:Ctx} {P:Program} {cf:FuncId->List Arg->R3 fZ}
variable {n:Fr} {σ:S} {g:Gh} {I:aA} {a:Act} {w:World}
theorem rX (κ:Key->KE) : ∀ {aR:List LT} {ls:List Leaf} {vs:List Value},bS κ g w I ls vs->bS κ g w I (pE aR ls) vs
 | [],ls,vs,h=>by unfold pE; exact h
 | lt::aR,[],vs,h=>by unfold pE; exact h
 | lt::aR,l::ls,[],h=>h.elim
 | lt::aR,l::ls,v::vs,h=>by
  unfold pE
  refine ⟨?_,rX κ h.2⟩
  split
  ·rename_i e1
   obtain ⟨h1,h2⟩:=h.1
   refine ⟨h1,?_⟩
   simp only [e1] at h2 ⊢
   exact ⟨trivial,h2.2⟩
  ·exact h.1
theorem Zn {κ:Key->KE} {ls:List Leaf} {v:Value} (h:bS κ g w I ls [v]):jw κ g w I (O7 ls) v:=by
 unfold O7
 split
 ·exact h.1
 ·trivial
theorem Tq {κ:Key->KE} {ls:List Leaf} {cs:Array Value} (h:bS κ g w I ls cs.toList):jw κ g w I (HV true ls) (.agg cs):=⟨cs,rfl,h⟩
theorem Pf {κ:Key->KE} {ls:List Leaf} {v:Value} (h:bS κ g w I ls [v]):jw κ g w I (HV false ls) v:=by
 unfold HV
 simp only [cond_false]
 split
 ·exact h.1
 ·trivial
theorem fH {t:TypeId} {k:TI->Prog} {tr:Tr} {Q:S->Tr->Prop} (hΓ:eF Γ P) (h:(uI Γ t k).wp cf σ tr Q) :
  ∃ ti,Γ.ty t=some ti/\uT Γ P t ti/\(k ti).wp cf σ tr Q:=by
 obtain ⟨ti,h1,h2⟩:=dK h
 exact ⟨ti,h1,hΓ.ty t ti h1,h2⟩
variable {o:Oper} {f:FuncId} {tr:Tr} {Q:S->Tr->Prop} {K:Act->World->Prop} {Qm:Exit->Act->World->Prop}
theorem Zo {aR:List LT} {κ:Key->KE} {e:eU} {v:Value} (h:jw κ g w I e v):jw κ g w I (O8 aR e) v:=by
 unfold O8
 split
 ·exact Zn (rX _ ⟨h,trivial⟩)
 ·obtain ⟨cs,h3,h4⟩:=h
  exact ⟨cs,h3,rX _ h4⟩
 ·exact h
theorem aeD {s:ST} {d:T} {v:Value} (h:Pe s v d):Td s d=d:=by
 cases s <;> first | rfl | skip
 obtain ⟨b,-,rfl⟩:=h
 rfl
theorem ajv (hd:cZ n.np n.nt o=true) (hR:R n σ g I a w) (hK:Post P n I w Q K) {c x y:Operand} (hop:o.op = .pick c x y)
  (h:(bF Γ f o).wp cf σ tr Q):Goal P o a w K Qm:=by
 simp only [bF,hop] at h
 obtain ⟨ec,t1,hc,h⟩:=jo hR h
 obtain ⟨ex,t2,hx,h⟩:=jo hR h
 obtain ⟨ey,t3,hy,h⟩:=jo hR h
 obtain ⟨s,d,rfl,hv,h⟩:=nX hc h
 split at h
 ·obtain ⟨b,hb,rfl⟩:=hv
  have hrun:=ahe (P:=P) (w:=w) (ρ:=a.eval) hop hb
  simp only [Prog.wp,T.bool] at h
  cases b
  ·simp only [Bool.false_eq_true,if_false] at h hrun
   obtain ⟨s,d,rfl,hv,h⟩:=nX hy h
   rw [aeD hv] at h
   exact mG hd hR hK hrun hv h
  ·simp only [if_true] at h hrun
   obtain ⟨s,d,rfl,hv,h⟩:=nX hx h
   rw [aeD hv] at h
   exact mG hd hR hK hrun hv h
 ·exact h.elim
theorem rY {ds:List ED} {p:Prog} : ∀ {tr:Tr},(Cr ds p).wp cf σ tr Q->Cur σ.k ds /\ ∃ cO,p.wp cf σ cO Q:=by
 induction ds with
 | nil=>intro tr h; exact ⟨fun _ h=>(nomatch h),tr,h⟩
 | cons d ds ih =>
  intro tr h
  obtain ⟨k,m⟩:=d
  obtain ⟨h1,h2⟩:=h
  obtain ⟨h3,h4⟩:=ih h2
  refine ⟨fun x hx=>?_,h4⟩
  rcases List.mem_cons.1 hx with rfl | hx
  ·exact Nat.eq_of_beq_eq_true h1
  ·exact h3 x hx
theorem aa8 (hd:cZ n.np n.nt o=true) (hR:R n σ g I a w) (hK:Post P n I w Q K) {x:Operand} (hop:o.op = .nilCheck x)
  (h:(bF Γ f o).wp cf σ tr Q):Goal P o a w K Qm:=by
 simp only [bF,hop] at h
 obtain ⟨e,t1,he,h⟩:=jo hR h
 have key : ∀ b o',a.eval x = .pointer (some ⟨b,o',none⟩)->(execOp a.eval o).run P w = .ok (.value (a.eval x)) w:=fun b o' hv=>Zm hop hv
 split at h
 ·obtain ⟨h1,h2⟩:=h
  obtain ⟨b,o',hv,-⟩:=he.2.2 (Nat.eq_of_beq_eq_true h1)
  exact jD hd hR hK (key b o' hv) he h2
 ·obtain ⟨h1,t2,h2⟩:=rY h
  obtain ⟨b,o',hv,-⟩:=he.2.2 h1
  exact jD hd hR hK (key b o' hv) he h2
 ·exact h.elim
theorem adv (hd:cZ n.np n.nt o=true) (hR:R n σ g I a w) (hK:Post P n I w Q K) {x:Operand} {i:Nat} (hop:o.op = .extract x i)
  (h:(bF Γ f o).wp cf σ tr Q):Goal P o a w K Qm:=by
 simp only [bF,hop] at h
 obtain ⟨e,t1,he,h⟩:=jo hR h
 split at h
 ·rename_i es
  obtain ⟨vs,hv,hs⟩:=he
  obtain ⟨x',hx,h⟩:=dK h
  have key : ∀ (es:List eU) (vs:List Value) (i:Nat),oN σ.k g w I es vs->es[i]? = some x'->∃ v,vs[i]? = some v/\qF σ.k g w I x' v:=by
   intro es
   induction es with
   | nil=>intro vs i _ h; simp at h
   | cons e es ih =>
    intro vs i h1 h2
    cases vs with
    | nil=>exact h1.elim
    | cons v vs =>
     cases i with
     | zero=>simp at h2; subst h2; exact ⟨v,rfl,h1.1⟩
     | succ i=>simpa using ih vs i h1.2 (by simpa using h2)
  obtain ⟨v,hv1,hv2⟩:=key es vs.toList i hs hx
  have aoD:vs[i]? = some v:=by simpa using hv1
  have hrun:=aa7 (P:=P) (w:=w) (ρ:=a.eval) hop hv aoD
  refine jD hd hR hK hrun (e:=x') ?_ h
  cases x' <;> first | exact hv2 | exact hv2.elim
 ·exact h.elim
end
end Go.E

namespace Go.E
open Go
section
variable {P:Program} {w:World} {ρ:Operand->Value} {o:Oper}
theorem afG {op:BinOp} {t:TypeId} {x y:Operand} {k k':IntKind} {i j:Int} : (eqGuard op t x y (.int k i) (.int k' j)).run P w = .ok () w:=by
 cases op <;> simp [eqGuard,go_sem]
theorem afH {op:BinOp} {t:TypeId} {x y:Operand} {i j:ByteArray} : (eqGuard op t x y (.string i) (.string j)).run P w = .ok () w:=by
 cases op <;> simp [eqGuard,go_sem]
theorem adw {op:BinOp} {t:TypeId} {x y:Operand} {i j:Bool} : (eqGuard op t x y (.bool i) (.bool j)).run P w = .ok () w:=by
 cases op <;> simp [eqGuard,go_sem]
theorem rZ {op:BinOp} {t t':TypeId} {x y:Operand} {v:Value} (hop:o.op = .binOp op t x y t')
  (hg:(eqGuard op t x y (ρ x) (ρ y)).run P w = .ok () w) (hv:(binOp op t (ρ x) (ρ y)).run P w = .ok v w) :
  (execOp ρ o).run P w = .ok (.value v) w:=by
 simp only [execOp,hop]
 rw [Sem.run_bind,Sem.run_bind,hg]
 simp [hv]
theorem Tt {op:UnOp} {t:TypeId} {x:Operand} {v:Value} (hop:o.op = .unOp op t x) (hv:(Op.unary op (ρ x)).run P w = .ok v w) :
  (execOp ρ o).run P w = .ok (.value v) w:=by
 simp only [execOp,hop]
 rw [Sem.run_bind,hv]
 simp
theorem aof {α:Type} (x:α):(pure x:Sem α).run P w = .ok x w:=rfl
end
section
variable {Γ:Ctx} {P:Program} {cf:FuncId->List Arg->R3 fZ}
variable {n:Fr} {σ:S} {g:Gh} {I:aA} {a:Act} {w:World}
variable {o:Oper} {f:FuncId} {tr:Tr} {Q:S->Tr->Prop} {K:Act->World->Prop} {Qm:Exit->Act->World->Prop}
theorem afI {op:BinOp} {k:IntKind} {x y:Int} {C:ST->T->Prog} (t:TypeId) (hx:k.min<=x/\x<=k.max)
  (h:(adl op k x y C).wp cf σ tr Q) (h1:op ≠ .shl) (h2:op ≠ .shr) :
  ∃ s d v,(binOp op t (.int k x) (.int k y)).run P w = .ok v w/\Pe s v d/\(C s d).wp cf σ tr Q:=by
 cases op <;> simp only [adl] at h <;> try (exact h.elim)
 case add=>exact ⟨_,_,_,by simp only [binOp,ne_eq,not_true_eq_false,if_false,Op.intArith]; rfl,xk,h⟩
 case sub=>exact ⟨_,_,_,by simp only [binOp,ne_eq,not_true_eq_false,if_false,Op.intArith]; rfl,xk,h⟩
 case mul=>exact ⟨_,_,_,by simp only [binOp,ne_eq,not_true_eq_false,if_false,Op.intArith]; rfl,xk,h⟩
 case quo =>
  obtain ⟨h0,h⟩:=h
  have hy:y≠0:=by simpa using h0
  exact ⟨_,_,_,by simp only [binOp,ne_eq,not_true_eq_false,if_false,Op.intDiv,hy]; rfl,xk,h⟩
 case rem =>
  obtain ⟨h0,h⟩:=h
  have hy:y≠0:=by simpa using h0
  exact ⟨.int k,.i (x.tmod y),.int k (x.tmod y),by simp only [binOp,ne_eq,not_true_eq_false,if_false,Op.intDiv,hy]; rfl,⟨_,rfl,rfl,(Tp hx).1,(Tp hx).2⟩,h⟩
 case and=>exact ⟨_,_,_,by simp only [binOp,ne_eq,not_true_eq_false,if_false,Op.intBits]; rfl,xk,h⟩
 case or=>exact ⟨_,_,_,by simp only [binOp,ne_eq,not_true_eq_false,if_false,Op.intBits]; rfl,xk,h⟩
 case xor=>exact ⟨_,_,_,by simp only [binOp,ne_eq,not_true_eq_false,if_false,Op.intBits]; rfl,xk,h⟩
 case andNot=>exact ⟨_,_,_,by simp only [binOp,ne_eq,not_true_eq_false,if_false,Op.intBits]; rfl,xk,h⟩
 case eql=>exact ⟨_,_,_,by simp only [binOp,ne_eq,not_true_eq_false,if_false,Op.intCmp]; rfl,ni,h⟩
 case neq=>exact ⟨_,_,_,by simp only [binOp,ne_eq,not_true_eq_false,if_false,Op.intCmp]; rfl,ni,h⟩
 case lss=>exact ⟨_,_,_,by simp only [binOp,ne_eq,not_true_eq_false,if_false,Op.intCmp]; rfl,ni,h⟩
 case leq=>exact ⟨_,_,_,by simp only [binOp,ne_eq,not_true_eq_false,if_false,Op.intCmp]; rfl,ni,h⟩
 case gtr=>exact ⟨_,_,_,by simp only [binOp,ne_eq,not_true_eq_false,if_false,Op.intCmp]; rfl,ni,h⟩
 case geq=>exact ⟨_,_,_,by simp only [binOp,ne_eq,not_true_eq_false,if_false,Op.intCmp]; rfl,ni,h⟩
theorem Zp:IntKind.i64.max=9223372036854775807:=by decide
theorem afJ {op:BinOp} {x y:ByteArray} {C:ST->T->Prog} (t:TypeId)
  (h:(adn op x y C).wp cf σ tr Q) :
  ∃ s d v,(binOp op t (.string x) (.string y)).run P w = .ok v w/\Pe s v d/\(C s d).wp cf σ tr Q:=by
 cases op <;> simp only [adn] at h <;> try (exact h.elim)
 case add =>
  obtain ⟨h0,h⟩:=h
  have h1:x.size+y.size<9223372036854775808:=by simpa using h0
  have h2 : ¬ (((x.size+y.size:Nat):Int) > IntKind.i64.max):=by rw [Zp]; omega
  exact ⟨.str,_,.string (x++y),by simp only [binOp,Op.stringOp,h2,if_false]; rfl,⟨_,rfl,rfl,by rw [ByteArray.size_append]; exact h1⟩,h⟩
 case eql=>exact ⟨_,_,_,by simp only [binOp,Op.stringOp]; rfl,ni,h⟩
 case neq=>exact ⟨_,_,_,by simp only [binOp,Op.stringOp]; rfl,ni,h⟩
 case lss=>exact ⟨_,_,_,by simp only [binOp,Op.stringOp]; rfl,ni,h⟩
 case leq=>exact ⟨_,_,_,by simp only [binOp,Op.stringOp]; rfl,ni,h⟩
 case gtr=>exact ⟨_,_,_,by simp only [binOp,Op.stringOp]; rfl,ni,h⟩
 case geq=>exact ⟨_,_,_,by simp only [binOp,Op.stringOp]; rfl,ni,h⟩
end
end Go.E

namespace Go.E
open Go
section
variable {P:Program} {w:World} {ρ:Operand->Value} {o:Oper}
theorem aa9 {t:TypeId} {cs:Array Value} {off:Nat} {v:Value} {d:TypeDesc} (hu:P.underlying t=some d) (hd:(∀ fs,d ≠ .struct fs) /\ ∀ n e,d ≠ .array n e)
  (hv:cs[off]? = some v):(part t cs off).run P w = .ok v w:=by
 have h1:(isAgg t).run P w = .ok false w:=by
  simp only [isAgg,Sem.run_bind,run_underlying hu,Result.andThen_ok]
  cases d <;> first | rfl | exact absurd rfl (hd.1 _) | exact absurd rfl (hd.2 _ _)
 simp [part,h1,hv]
end
section
variable {Γ:Ctx} {P:Program} {cf:FuncId->List Arg->R3 fZ}
variable {n:Fr} {σ:S} {g:Gh} {I:aA} {a:Act} {w:World}
variable {o:Oper} {f:FuncId} {tr:Tr} {Q:S->Tr->Prop} {K:Act->World->Prop} {Qm:Exit->Act->World->Prop}
theorem ajw {s:ST} {x y:T} {u v:Value} {b:Bool} {t:TypeId} {d:Nat} (hty:match LT.sc s with
   | .sc (.int k)=>P.underlying t=some (.int k)
   | .sc .bool=>P.underlying t=some .bool
   | .sc .str=>P.underlying t=some .string
   | _=>False) (hu:Pe s u x) (hv:Pe s v y) (h:ag3 s x y=some b) :
  (Op.equalIn (d+1) t u v).run P w = .ok b w /\ ∃ dd,P.underlying t=some dd/\(∀ fs,dd ≠ .struct fs) /\ ∀ n e,dd ≠ .array n e:=by
 cases s with
 | int k =>
  obtain ⟨i,rfl,rfl,-⟩:=hu
  obtain ⟨i',rfl,rfl,-⟩:=hv
  simp only [ag3,T.int,Option.some.injEq] at h
  subst h
  exact ⟨run_equalIn_int w d _ _ _ _ _ hty,_,hty,fun _ h=>(nomatch h),fun _ _ h=>(nomatch h)⟩
 | bool =>
  obtain ⟨i,rfl,rfl⟩:=hu
  obtain ⟨i',rfl,rfl⟩:=hv
  simp only [ag3,T.bool,Option.some.injEq] at h
  subst h
  exact ⟨run_equalIn_bool' w d _ _ _ hty,_,hty,fun _ h=>(nomatch h),fun _ _ h=>(nomatch h)⟩
 | str =>
  obtain ⟨i,rfl,rfl,-⟩:=hu
  obtain ⟨i',rfl,rfl,-⟩:=hv
  simp only [ag3,T.str,Option.some.injEq] at h
  subst h
  exact ⟨run_equalIn_string w d _ _ _ hty,_,hty,fun _ h=>(nomatch h),fun _ _ h=>(nomatch h)⟩
 | any=>exact hty.elim
theorem Qg {κ:Key->KE} {d:Nat} {xs ys:Array Value} : ∀ (fs:List Field) (aR:List LT) (j:Nat) (ls rs:List Leaf) (r:Bool),Zl P j fs aR ->
  bS κ g w I ls (xs.toList.drop j)->bS κ g w I rs (ys.toList.drop j)->zn aR ls rs=some r ->
  (Op.eqFields (d+1) xs ys fs).run P w = .ok r w
 | [],[],j,ls,rs,r,hf,hl,hr,he=>by
  cases ls <;> cases rs <;> simp [zn] at he
  subst he; simp [Op.eqFields]
 | [],_::_,j,ls,rs,r,hf,hl,hr,he=>hf.elim
 | f::fs,[],j,ls,rs,r,hf,hl,hr,he=>hf.elim
 | f::fs,lt::aR,j,ls,rs,r,hf,hl,hr,he=>by
  unfold zn at he
  split at he
  ·contradiction
  ·rename_i c ajx a' x ls' b' y rs' e1
   cases e1
   split at he
   ·rename_i hab
    obtain ⟨rfl,rfl⟩:=hab
    split at he
    ·rename_i b r' h1 h2
     cases he
     obtain ⟨hname,hoff,hty,hf⟩:=hf
     cases hx:xs.toList.drop j with
     | nil=>rw [hx] at hl; exact hl.elim
     | cons u us =>
      cases hy:ys.toList.drop j with
      | nil=>rw [hy] at hr; exact hr.elim
      | cons v vs =>
       rw [hx] at hl; rw [hy] at hr
       have hx1:xs[j]? = some u:=by
        have:(xs.toList.drop j)[0]? = some u:=by rw [hx]; rfl
        simpa using this
       have hy1:ys[j]? = some v:=by
        have:(ys.toList.drop j)[0]? = some v:=by rw [hy]; rfl
        simpa using this
       have hx2:xs.toList.drop (j+1)=us:=by rw [<-List.drop_drop,hx]; rfl
       have hy2:ys.toList.drop (j+1)=vs:=by rw [<-List.drop_drop,hy]; rfl
       obtain ⟨-,s1',e1,hu⟩:=hl.1
       obtain ⟨-,s2',e2,hv⟩:=hr.1
       cases e1; cases e2
       obtain ⟨hb,dd,hu',hdd⟩:=ajw (P:=P) (w:=w) (d:=d) hty hu hv h1
       have ih:=Qg (d:=d) (xs:=xs) (ys:=ys) fs aR (j+1) ls' rs' r' hf (by rw [hx2]; exact hl.2) (by rw [hy2]; exact hr.2) h2
       simp only [Op.eqFields,ne_eq,hname,not_false_eq_true,if_true,Sem.run_bind,hoff,aa9 hu' hdd hx1,aa9 hu' hdd hy1,Result.andThen_ok,hb]
       cases b
       ·simp
       ·simpa using ih
    ·cases he
   ·cases he
  ·cases he
theorem X4 {κ:Key->KE} {t:TypeId} {ti:TI} {ls rs:List Leaf} {r:Bool} {xs ys:Array Value} (hf:adt P t ti.aR) (hl:bS κ g w I ls xs.toList) (hr:bS κ g w I rs ys.toList)
  (he:zn ti.aR ls rs=some r):(Op.equal t (.agg xs) (.agg ys)).run P w = .ok r w /\
   ∀ op x y,(eqGuard op t x y (.agg xs) (.agg ys)).run P w = .ok () w:=by
 obtain ⟨fields,h1,h2,h3,h4⟩:=hf
 constructor
 ·have hfo:P.fieldsOf t=fields:=by simp [Program.fieldsOf,h1]
  show (Op.equalIn (9999+1) t (.agg xs) (.agg ys)).run P w = .ok r w
  rw [run_equalIn_struct (P:=P) w 9999 t xs ys (by rw [hfo]; exact h1) h2,hfo]
  exact Qg (d:=9998) fields.toList ti.aR 0 ls rs r h4 (by simpa using hl) (by simpa using hr) he
 ·intro op x y
  cases op <;> simp [eqGuard,h3,go_sem]
theorem ahf (hΓ:eF Γ P) (hd:cZ n.np n.nt o=true) (hR:R n σ g I a w) (hK:Post P n I w Q K) {op:BinOp} {t t':TypeId} {x y:Operand} (hop:o.op = .binOp op t x y t')
  (h:(bF Γ f o).wp cf σ tr Q):Goal P o a w K Qm:=by
 simp only [bF,hop] at h
 obtain ⟨ti,-,hty,h⟩:=fH hΓ h
 obtain ⟨ex,t1,hx,h⟩:=jo hR h
 obtain ⟨ey,t2,hy,h⟩:=jo hR h
 unfold amF at h
 split at h
 ·skip
  rename_i k u k' v _
  have hu:Pe (.int k) (a.eval x) u:=by obtain ⟨-,s,e,hu⟩:=hx; cases e; exact hu
  have hv:Pe (.int k') (a.eval y) v:=by obtain ⟨-,s,e,hu⟩:=hy; cases e; exact hu
  obtain ⟨i,hi,rfl,hi1⟩:=hu
  obtain ⟨j,hj,rfl,hj1⟩:=hv
  have hgd:(eqGuard op t x y (a.eval x) (a.eval y)).run P w = .ok () w:=by rw [hi,hj]; exact afG
  split at h
  ·obtain ⟨h0,h⟩:=h
   have h1 : ¬ j<0:=by have:=of_decide_eq_true h0; simp only [T.int] at this; omega
   refine mG hd hR hK (rZ hop hgd (v:=.int k (k.wrap (i * 2 ^ (min j.toNat k.bits)))) ?_) xk h
   rw [hi,hj]; simp [binOp,Op.shift,h1]
  ·obtain ⟨h0,h⟩:=h
   have h1 : ¬ j<0:=by have:=of_decide_eq_true h0; simp only [T.int] at this; omega
   refine mG hd hR hK (s:=.int k) (rZ hop hgd (v:=.int k (i.fdiv (2 ^ (min j.toNat k.bits)))) ?_) ⟨_,rfl,rfl,adu hi1⟩ h
   rw [hi,hj]; simp [binOp,Op.shift,h1]
  ·rename_i hs1 hs2
   split at h
   ·rename_i hk
    subst hk
    obtain ⟨s,d,v,h1,h2,h3⟩:=afI (P:=P) (w:=w) t hi1 h (fun e=>hs1 e) (fun e=>hs2 e)
    exact mG hd hR hK (rZ hop hgd (by rw [hi,hj]; exact h1)) h2 h3
   ·exact h.elim
 ·obtain ⟨-,s,e,hu⟩:=hx
  cases e
  obtain ⟨-,s,e,hv⟩:=hy
  cases e
  obtain ⟨i,hi,rfl,hi1⟩:=hu
  obtain ⟨j,hj,rfl,hj1⟩:=hv
  have hgd:(eqGuard op t x y (a.eval x) (a.eval y)).run P w = .ok () w:=by rw [hi,hj]; exact afH
  obtain ⟨s,d,v,h1,h2,h3⟩:=afJ (P:=P) (w:=w) t h
  exact mG hd hR hK (rZ hop hgd (by rw [hi,hj]; exact h1)) h2 h3
 ·obtain ⟨-,s,e,hu⟩:=hx
  cases e
  obtain ⟨-,s,e,hv⟩:=hy
  cases e
  obtain ⟨i,hi,rfl⟩:=hu
  obtain ⟨j,hj,rfl⟩:=hv
  have hgd:(eqGuard op t x y (a.eval x) (a.eval y)).run P w = .ok () w:=by rw [hi,hj]; exact adw
  cases hb:Y8 ti.kind with
  | false=>simp only [hb,cond_false] at h; exact h.elim
  | true =>
   simp only [hb,cond_true] at h
   have hub:P.underlying t=some .bool:=by
    obtain ⟨d,h1,h2⟩:=hty.und
    unfold Y8 at hb
    split at hb
    ·rename_i hk; rw [hk] at h2; rw [h1,h2.1]
    ·cases hb
   have heq:(Op.equal t (.bool i) (.bool j)).run P w = .ok (i==j) w:=run_equalIn_bool' w 9999 t i j hub
   split at h
   ·exact mG hd hR hK (rZ hop hgd (v:=.bool (i==j)) (by rw [hi,hj]; simp [binOp,heq])) ni h
   ·exact mG hd hR hK (rZ hop hgd (v:=.bool (!(i==j))) (by rw [hi,hj]; simp [binOp,heq])) ni h
   ·exact h.elim
 ·rename_i ls rs
  obtain ⟨xs,hxs,hl⟩:=hx
  obtain ⟨ys,hys,hr⟩:=hy
  cases hb:ti.flat with
  | false=>simp only [hb,cond_false] at h; exact h.elim
  | true =>
   simp only [hb,cond_true] at h
   split at h
   ·obtain ⟨r,he,h⟩:=dK h
    obtain ⟨h1,h2⟩:=X4 (hty.flat hb) hl hr he
    exact mG hd hR hK (rZ hop (by rw [hxs,hys]; exact h2 _ _ _) (v:=.bool r) (by rw [hxs,hys]; simp [binOp,h1])) ni h
   ·obtain ⟨r,he,h⟩:=dK h
    obtain ⟨h1,h2⟩:=X4 (hty.flat hb) hl hr he
    exact mG hd hR hK (rZ hop (by rw [hxs,hys]; exact h2 _ _ _) (v:=.bool (!r)) (by rw [hxs,hys]; simp [binOp,h1])) ni h
   ·exact h.elim
 ·exact h.elim
theorem ajy (hd:cZ n.np n.nt o=true) (hR:R n σ g I a w) (hK:Post P n I w Q K) {op:UnOp} {t:TypeId} {x:Operand} (hop:o.op = .unOp op t x)
  (h:(bF Γ f o).wp cf σ tr Q):Goal P o a w K Qm:=by
 simp only [bF,hop] at h
 obtain ⟨ex,t1,hx,h⟩:=jo hR h
 obtain ⟨s,d,rfl,hv,h⟩:=nX hx h
 split at h
 ·obtain ⟨b,hb,rfl⟩:=hv
  exact mG hd hR hK (Tt hop (by rw [hb]; rfl)) ni h
 ·obtain ⟨i,hi,rfl,-⟩:=hv
  exact mG hd hR hK (Tt hop (by rw [hi]; rfl)) xk h
 ·obtain ⟨i,hi,rfl,-⟩:=hv
  exact mG hd hR hK (Tt hop (by rw [hi]; rfl)) xk h
 ·exact h.elim
end
end Go.E

namespace Go.E
open Go
mutual
theorem LT.beq_eq : ∀ {a b:LT},LT.beq a b=true->a=b
 | .sc a,.sc b,h=>by unfold LT.beq at h; rw [of_decide_eq_true h]
 | .sl a,.sl b,h=>by unfold LT.beq at h; rw [LT.bL h]
 | .sc _,.sl _,h=>by unfold LT.beq at h; cases h
 | .sl _,.sc _,h=>by unfold LT.beq at h; cases h
theorem LT.bL : ∀ {a b:List LT},LT.dO a b=true->a=b
 | [],[],h=>rfl
 | a::as,b::bs,h=>by
  unfold LT.dO at h
  simp only [Bool.and_eq_true] at h
  rw [LT.beq_eq h.1,LT.bL h.2]
 | [],_::_,h=>by unfold LT.dO at h; cases h
 | _::_,[],h=>by unfold LT.dO at h; cases h
end
section
variable {w w':World} {I I' S A:aA}
def aU (w:World) (S:aA):List LT->List Value->List T->Prop
 | [],[],[]=>True
 | e::es,v::vs,d::ds=>aJ w S e v d/\aU w S es vs ds
 | _,_,_=>False
def bJ (w:World) (b o:Nat):List Value->Prop
 | []=>True
 | v::vs=>cellAt w b o=some v/\bJ w b (o+1) vs
theorem bW.vals : ∀ {es:List LT} {b o:Nat} {row:List T},bW w A S es b o row->∃ vs,aU w S es vs row/\bJ w b o vs
 | [],b,o,row,h=>by unfold bW at h; subst h; exact ⟨[],trivial,trivial⟩
 | e::es,b,o,row,h=>by
  unfold bW at h
  obtain ⟨d,rest,v,rfl,-,h3,h4,h5⟩:=h
  obtain ⟨vs,h6,h7⟩:=bW.vals h5
  exact ⟨v::vs,⟨h4,h6⟩,h3,h7⟩
theorem aU.len : ∀ {es:List LT} {vs:List Value} {ds:List T},aU w S es vs ds->vs.length=es.length/\ds.length=es.length
 | [],[],[],_=>⟨rfl,rfl⟩
 | _::es,_::vs,_::ds,h=>by have:=aU.len h.2; simp; omega
 | [],_::_,_,h=>h.elim
 | [],[],_::_,h=>h.elim
 | _::_,[],_,h=>h.elim
 | _::_,_::_,[],h=>h.elim
theorem aU.drop : ∀ {es:List LT} {vs:List Value} {ds:List T} (k:Nat),aU w S es vs ds->aU w S (es.drop k) (vs.drop k) (ds.drop k)
 | es,vs,ds,0,h=>h
 | [],[],[],k+1,h=>trivial
 | _::es,_::vs,_::ds,k+1,h=>aU.drop k h.2
 | [],_::_,_,_+1,h=>h.elim
 | [],[],_::_,_+1,h=>h.elim
 | _::_,[],_,_+1,h=>h.elim
 | _::_,_::_,[],_+1,h=>h.elim
theorem bJ.drop : ∀ {vs:List Value} {b o:Nat} (k:Nat),bJ w b o vs->bJ w b (o+k) (vs.drop k)
 | vs,b,o,0,h=>h
 | [],b,o,k+1,h=>trivial
 | v::vs,b,o,k+1,h=>by
  have:=bJ.drop k h.2
  rwa [show o+1+k=o+(k+1) from by omega] at this
theorem bJ.take : ∀ {vs:List Value} {b o:Nat} (k:Nat),bJ w b o vs->bJ w b o (vs.take k)
 | vs,b,o,0,h=>trivial
 | [],b,o,k+1,h=>trivial
 | v::vs,b,o,k+1,h=>⟨h.1,bJ.take k h.2⟩
theorem lJ {b o:Nat} {c:Array Value} {el:TypeId} {fz:Nat×Nat} (h:Block w b c el fz):cellAt w b o=c[o]?:=by
 unfold Block at h
 simp [cellAt,World.cell?,h]
theorem Keeps.block {b:Nat} {c:Array Value} {el:TypeId} {fz:Nat×Nat} (h:Keeps A w w') (hb:Block w b c el fz) :
  ∃ c',Block w' b c' el fz/\c'.size=c.size /\ ∀ o,A b o->c'[o]? = c[o]?:=by
 obtain ⟨y,hy,hk⟩:=h.obj b _ hb
 obtain ⟨c',rfl,h1,h2⟩:=hk
 exact ⟨c',hy,h1,h2⟩
theorem bW.aeE : ∀ {es:List LT} {b o:Nat} {vs:List Value} {row:List T},aU w I es vs row->bJ w b o vs->bW w (fun _ _=>True) I es b o row
 | [],b,o,[],[],_,_=>by unfold bW; rfl
 | e::es,b,o,v::vs,d::ds,h,hc=>by
  unfold bW
  exact ⟨d,ds,v,rfl,trivial,hc.1,h.1,bW.aeE h.2 hc.2⟩
 | [],_,_,_::_,_,h,_=>h.elim
 | [],_,_,[],_::_,h,_=>h.elim
 | _::_,_,_,[],_,h,_=>h.elim
 | _::_,_,_,_::_,[],h,_=>h.elim
theorem bJ.of_block {b:Nat} {c:Array Value} {el:TypeId} {fz:Nat×Nat} (hb:Block w b c el fz) : ∀ (vs:List Value) (k:Nat),(∀ j (hj:j<vs.length),c[k+j]? = some vs[j])->bJ w b k vs
 | [],_,_=>trivial
 | v::vs,k,h=>by
  refine ⟨?_,bJ.of_block hb vs (k+1) fun j hj=>?_⟩
  ·rw [lJ hb]; exact (h 0 (by simp))
  ·have:=h (j+1) (by simpa using hj)
   rwa [show k+(j+1)=k+1+j from by omega] at this
theorem bJ.get : ∀ {vs:List Value} {b o:Nat},bJ w b o vs->∀ j (hj:j<vs.length),cellAt w b (o+j)=some vs[j]
 | [],b,o,_,j,hj=>by simp at hj
 | v::vs,b,o,h,0,hj=>h.1
 | v::vs,b,o,h,j+1,hj=>by
  have:=bJ.get h.2 j (by simpa using hj)
  rwa [show o+1+j=o+(j+1) from by omega] at this
theorem aU.take : ∀ {es:List LT} {vs:List Value} {ds:List T} (k:Nat),aU w S es vs ds->aU w S (es.take k) (vs.take k) (ds.take k)
 | es,vs,ds,0,h=>by simp [aU]
 | [],[],[],k+1,h=>trivial
 | _::es,_::vs,_::ds,k+1,h=>⟨h.1,aU.take k h.2⟩
 | [],_::_,_,_+1,h=>h.elim
 | [],[],_::_,_+1,h=>h.elim
 | _::_,[],_,_+1,h=>h.elim
 | _::_,_::_,[],_+1,h=>h.elim
theorem aU.app : ∀ {es es':List LT} {vs vs':List Value} {ds ds':List T},aU w S es vs ds->aU w S es' vs' ds'->aU w S (es++es') (vs++vs') (ds++ds')
 | [],es',[],vs',[],ds',_,h=>h
 | _::_,_,_::_,_,_::_,_,h,h'=>⟨h.1,aU.app h.2 h'⟩
 | [],_,_::_,_,_,_,h,_=>h.elim
 | [],_,[],_,_::_,_,h,_=>h.elim
 | _::_,_,[],_,_,_,h,_=>h.elim
 | _::_,_,_::_,_,[],_,h,_=>h.elim
theorem aU.mono {I I':aA} (h : ∀ b o,I b o->I' b o/\cellAt w' b o=cellAt w b o) : ∀ {es:List LT} {vs:List Value} {ds:List T},aU w I es vs ds->aU w' I' es vs ds
 | [],[],[],_=>trivial
 | e::es,v::vs,d::ds,hh=>⟨aJ.mono (fun b o hb=>(h b o hb).1) (fun b o hb=>(h b o hb).2) e hh.1,aU.mono h hh.2⟩
 | [],_::_,_,h=>h.elim
 | [],[],_::_,h=>h.elim
 | _::_,[],_,h=>h.elim
 | _::_,_::_,[],h=>h.elim
theorem bW.D7 {S A:aA} : ∀ {es:List LT} {vs:List Value} {ds:List T} {b o:Nat},aU w S es vs ds->bJ w b o vs->(∀ j,j<vs.length->A b (o+j))->bW w A S es b o ds
 | [],[],[],b,o,_,_,_=>by unfold bW; rfl
 | e::es,v::vs,d::ds,b,o,h,hc,ha=>by
  unfold bW
  exact ⟨d,ds,v,rfl,by simpa using ha 0 (by simp),hc.1,h.1,bW.D7 h.2 hc.2 fun j hj=>by
   have:=ha (j+1) (by simpa using hj)
   rwa [show o+(j+1)=o+1+j from by omega] at this⟩
 | [],_::_,_,_,_,h,_,_=>h.elim
 | [],[],_::_,_,_,h,_,_=>h.elim
 | _::_,[],_,_,_,h,_,_=>h.elim
 | _::_,_::_,[],_,_,h,_,_=>h.elim
theorem bW.top {w:World} {I S A:aA} (hs : ∀ b o,I b o->S b o) : ∀ {es:List LT} {b o:Nat} {row:List T},
  bW w (fun _ _=>True) I es b o row->(∀ j,j<es.length->A b (o+j))->bW w A S es b o row
 | [],b,o,row,h,_=>by unfold bW at *; exact h
 | e::es,b,o,row,h,ha=>by
  unfold bW at h ⊢
  obtain ⟨d,rest,v,h1,-,h3,h4,h5⟩:=h
  exact ⟨d,rest,v,h1,by simpa using ha 0 (by simp),h3,aJ.mono hs (fun _ _ _=>rfl) e h4,
   bW.top hs h5 fun j hj=>by have:=ha (j+1) (by simp; omega); rwa [show o+1+j=o+(j+1) from by omega]⟩
end
section
variable {p q:List Value->List T->List Nat->Prop} {sz:Nat}
theorem aM.imp : ∀ {rows:List (List T)} {cs:List Value} {bs:List Nat},(∀ vs ds b',(∀ x∈b',x∈bs)->p vs ds b'->q vs ds b')->aM p sz rows cs bs->aM q sz rows cs bs
 | [],cs,bs,_,h=>h
 | r::rs,cs,bs,hp,h=>by
  obtain ⟨b1,b2,rfl,h1,h2⟩:=h
  exact ⟨b1,b2,rfl,hp _ _ _ (fun x hx=>by simp [hx]) h1,aM.imp (fun vs ds b' hb=>hp vs ds b' fun x hx=>by simp [hb x hx]) h2⟩
theorem aM.get : ∀ {rows:List (List T)} {cs:List Value} {bs:List Nat},aM p sz rows cs bs->∀ i (h:i<rows.length),∃ b',(∀ x∈b',x∈bs)/\p ((cs.drop (i * sz)).take sz) rows[i] b'
 | r::rs,cs,bs,h,0,_=>by
  obtain ⟨b1,b2,rfl,h1,h2⟩:=h
  exact ⟨b1,fun x hx=>by simp [hx],by simpa using h1⟩
 | r::rs,cs,bs,h,i+1,hi=>by
  obtain ⟨b1,b2,rfl,h1,h2⟩:=h
  obtain ⟨b',h3,h4⟩:=aM.get h2 i (by simpa using hi)
  refine ⟨b',fun x hx=>by simp [h3 x hx],?_⟩
  rw [List.drop_drop] at h4
  simpa [Nat.add_mul,Nat.add_comm] using h4
theorem aM.cells : ∀ {rows:List (List T)} {cs cs':List Value} {bs:List Nat},aM p sz rows cs bs->cs'.take (rows.length * sz)=cs.take (rows.length * sz)->aM p sz rows cs' bs
 | [],cs,cs',bs,h,_=>h
 | r::rs,cs,cs',bs,h,he=>by
  obtain ⟨b1,b2,rfl,h1,h2⟩:=h
  have e1:(r::rs).length * sz=sz+rs.length * sz:=by simp only [List.length_cons,Nat.add_mul]; omega
  rw [e1] at he
  refine ⟨b1,b2,rfl,?_,aM.cells h2 ?_⟩
  ·have:=congrArg (List.take sz) he
   rw [List.take_take,List.take_take,Nat.min_eq_left (by omega)] at this
   rw [this]; exact h1
  ·have:=congrArg (List.drop sz) he
   rw [List.drop_take,List.drop_take] at this
   simpa using this
theorem aM.app : ∀ {rows rows':List (List T)} {cs cs':List Value} {b1 b2:List Nat},aM p sz rows cs b1->cs.length=rows.length * sz->aM p sz rows' cs' b2->aM p sz (rows++rows') (cs++cs') (b1++b2)
 | [],rows',cs,cs',b1,b2,h,hn,h'=>by
  have:cs=[]:=List.length_eq_zero_iff.1 (by simpa using hn)
  subst this
  have h:b1=[]:=h
  subst h; exact h'
 | r::rs,rows',cs,cs',b1,b2,h,hn,h'=>by
  obtain ⟨b3,b4,rfl,h1,h2⟩:=h
  simp only [List.length_cons,Nat.add_mul,Nat.one_mul] at hn
  refine ⟨b3,b4++b2,by simp,?_,?_⟩
  ·rw [List.take_append_of_le_length (by omega)]; exact h1
  ·rw [List.drop_append_of_le_length (by omega)]
   exact aM.app h2 (by rw [List.length_drop]; omega) h'
theorem aM.split : ∀ (k:Nat) {rows:List (List T)} {cs:List Value} {bs:List Nat},aM p sz rows cs bs->∃ b1 b2,bs=b1++b2/\aM p sz (rows.take k) cs b1/\aM p sz (rows.drop k) (cs.drop (k * sz)) b2
 | 0,rows,cs,bs,h=>⟨[],bs,rfl,rfl,by simpa using h⟩
 | k+1,[],cs,bs,h=>by
  have h:bs=[]:=h
  subst h
  exact ⟨[],[],rfl,rfl,rfl⟩
 | k+1,r::rs,cs,bs,h=>by
  obtain ⟨b1,b2,rfl,h1,h2⟩:=h
  obtain ⟨b3,b4,rfl,h3,h4⟩:=aM.split k h2
  refine ⟨b1++b3,b4,by simp,⟨b1,b3,rfl,h1,h3⟩,?_⟩
  rw [List.drop_drop] at h4
  simpa [Nat.add_mul,Nat.add_comm] using h4
theorem aM.join : ∀ (k:Nat) {rows:List (List T)} {cs:List Value} {b1 b2:List Nat},k<=rows.length->aM p sz (rows.take k) cs b1->aM p sz (rows.drop k) (cs.drop (k * sz)) b2->aM p sz rows cs (b1++b2)
 | 0,rows,cs,b1,b2,_,h,h'=>by
  have h:b1=[]:=h
  subst h; simpa using h'
 | k+1,[],cs,b1,b2,hk,_,_=>by simp at hk
 | k+1,r::rs,cs,b1,b2,hk,h,h'=>by
  obtain ⟨b3,b4,rfl,h1,h2⟩:=h
  refine ⟨b3,b4++b2,by simp,h1,aM.join k (by simpa using hk) h2 ?_⟩
  rw [List.drop_drop]
  simpa [Nat.add_mul,Nat.add_comm] using h'
theorem aM.set {vs:List Value} {ds:List T} {bn:List Nat} (hp:p vs ds bn) (hv:vs.length=sz) : ∀ {rows:List (List T)} {cs:List Value} {bs:List Nat} (i:Nat),aM p sz rows cs bs->rows.length * sz<=cs.length->i<rows.length ->
  ∃ b1 bo b2,bs=b1++bo++b2/\aM p sz (rows.set i ds) (cs.take (i * sz)++vs++cs.drop (i * sz+sz)) (b1++bn++b2)
 | r::rs,cs,bs,0,h,hn,_=>by
  obtain ⟨bo,b2,rfl,h1,h2⟩:=h
  refine ⟨[],bo,b2,by simp,bn,b2,by simp,?_,?_⟩
  ·simp only [Nat.zero_mul,List.take_zero,List.nil_append,Nat.zero_add]
   rw [List.take_append_of_le_length (by omega),<-hv,List.take_length]; exact hp
  ·simp only [Nat.zero_mul,List.take_zero,List.nil_append,Nat.zero_add]
   rw [List.drop_append_of_le_length (by omega),<-hv,List.drop_length,List.nil_append,hv]; exact h2
 | r::rs,cs,bs,i+1,h,hn,hi=>by
  obtain ⟨b3,b4,rfl,h1,h2⟩:=h
  simp only [List.length_cons,Nat.add_mul,Nat.one_mul] at hn
  obtain ⟨b1,bo,b2,rfl,h3⟩:=aM.set hp hv i h2 (by rw [List.length_drop]; omega) (by simpa using hi)
  have e1:(i+1) * sz=sz+i * sz:=by rw [Nat.add_mul]; omega
  have hm:i * sz+sz<=rs.length * sz:=by
   have:=Nat.mul_le_mul_right sz (show i+1<=rs.length by simp at hi; omega)
   rwa [Nat.add_mul,Nat.one_mul] at this
  refine ⟨b3++b1,bo,b2,by simp,b3,b1++bn++b2,by simp,?_,?_⟩
  ·rw [List.append_assoc,List.take_append_of_le_length (by rw [List.length_take]; omega),List.take_take,Nat.min_eq_left (by omega)]
   exact h1
  ·rw [List.append_assoc,List.drop_append_of_le_length (by rw [List.length_take]; omega),<-List.append_assoc,List.drop_take]
   rw [show (i+1) * sz-sz=i * sz from by omega]
   rw [List.drop_drop] at h3
   rw [show (i+1) * sz+sz=sz+(i * sz+sz) from by omega]
   exact h3
theorem aM.all {r:List Value->List T->Prop} (hp : ∀ vs ds b',p vs ds b'->r vs ds) : ∀ {rows:List (List T)} {cs:List Value} {bs:List Nat},aM p sz rows cs bs->∀ i (h:i<rows.length),r ((cs.drop (i * sz)).take sz) rows[i] :=
 fun h i hi=>by obtain ⟨b',-,h1⟩:=h.get i hi; exact hp _ _ _ h1
end
section
variable {w w':World} {I I' S A:aA}
theorem gZ {b:Nat} {c:Array Value} {el:TypeId} {fz:Nat×Nat} (h:Block w b c el fz):oV w b=c.size:=by
 unfold Block at h
 simp [oV,h]
theorem Zq {bs:List Nat} {b o:Nat} (h:FB w bs b o) : ∃ v,cellAt w b o=some v:=by
 obtain ⟨-,h⟩:=h
 unfold oV at h
 split at h
 ·rename_i c el fz hb
  exact ⟨c[o],by simp [cellAt,World.cell?,hb,h]⟩
 ·omega
theorem ala {b o:Nat} {v:Value} (h:cellAt w b o=some v):o<oV w b:=by
 unfold cellAt World.cell? at h
 unfold oV
 simp only at h
 split at h
 ·rename_i hb
  simp only [hb]
  exact (Array.getElem?_eq_some_iff.1 h).1
 ·cases h
theorem wD (hk:Keeps A w w') {b:Nat} (hb : ∃ c el fz,Block w b c el fz):oV w' b=oV w b:=by
 obtain ⟨c,el,fz,hb⟩:=hb
 obtain ⟨c',h1,h2,-⟩:=hk.block hb
 rw [gZ h1,gZ hb,h2]
theorem rz {bs bs':List Nat} (h : ∀ b∈bs,b∈bs') : ∀ b o,FB w bs b o->FB w bs' b o:=fun b o hb=>⟨h b hb.1,hb.2⟩
theorem mH {bs bs':List Nat} {b o:Nat} : FB w (bs++bs') b o ↔ FB w bs b o\/FB w bs' b o:=by
 unfold FB; rw [List.mem_append]; constructor
 ·rintro ⟨h | h,h'⟩
  ·exact .inl ⟨h,h'⟩
  ·exact .inr ⟨h,h'⟩
 ·rintro (⟨h,h'⟩ | ⟨h,h'⟩)
  ·exact ⟨.inl h,h'⟩
  ·exact ⟨.inr h,h'⟩
theorem aeF {c:Nat} {bs:List Nat} {b o:Nat} : FB w (c::bs) b o ↔ (b=c/\o<oV w c)\/FB w bs b o:=by
 unfold FB; rw [List.mem_cons]; constructor
 ·rintro ⟨rfl | h,h'⟩
  ·exact .inl ⟨rfl,h'⟩
  ·exact .inr ⟨h,h'⟩
 ·rintro (⟨rfl,h'⟩ | ⟨h,h'⟩)
  ·exact ⟨.inl rfl,h'⟩
  ·exact ⟨.inr h,h'⟩
theorem Ic (hk:Keeps A w w') {bs:List Nat} (hb : ∀ b∈bs,∃ c el fz,Block w b c el fz) (b o:Nat):FB w' bs b o ↔ FB w bs b o:=by
 unfold FB
 constructor
 ·rintro ⟨h1,h2⟩; exact ⟨h1,by rwa [wD hk (hb b h1)] at h2⟩
 ·rintro ⟨h1,h2⟩; exact ⟨h1,by rwa [wD hk (hb b h1)]⟩
theorem jZ : ∀ {b1 b2:List Nat},eZ w (b1++b2) ↔ eZ w b1/\eZ w b2 /\ ∀ b∈b1,b∈b2->oV w b=0
 | [],b2=>by simp [eZ]
 | b::b1,b2=>by
  simp only [List.cons_append,eZ,jZ (b1:=b1),List.mem_append,List.mem_cons]
  constructor
  ·rintro ⟨h1,h2,h3,h4⟩
   exact ⟨⟨fun h=>h1 (.inl h),h2⟩,h3,fun x hx hx2=>hx.elim (fun e=>by subst e; exact h1 (.inr hx2)) fun hx=>h4 x hx hx2⟩
  ·rintro ⟨⟨h1,h2⟩,h3,h4⟩
   exact ⟨fun h=>h.elim h1 (h4 b (.inl rfl)),h2,h3,fun x hx=>h4 x (.inr hx)⟩
theorem wE {b1 b2:List Nat} : aA.apart (FB w b1) (FB w b2) ↔ ∀ b∈b1,b∈b2->oV w b=0:=by
 constructor
 ·intro h b h1 h2
  rcases Nat.eq_zero_or_pos (oV w b) with h3 | h3
  ·exact h3
  ·exact (h b 0 ⟨h1,h3⟩ ⟨h2,h3⟩).elim
 ·intro h b o h1 h2
  have:=h b h1.1 h2.1
  have:=h1.2
  omega
def Nc (l' l:List Nat):Prop:=∀ b,l'.count b<=l.count b
theorem Nc.refl (l:List Nat):Nc l l:=fun _=>Nat.le_refl _
theorem Nc.trans {l l' l'':List Nat} (h:Nc l l') (h':Nc l' l''):Nc l l'':=fun b=>Nat.le_trans (h b) (h' b)
theorem Nc.mem {l l':List Nat} (h:Nc l' l) {b:Nat} (hb:b∈l'):b∈l:=List.count_pos_iff.1 (Nat.lt_of_lt_of_le (List.count_pos_iff.2 hb) (h b))
theorem L8 : ∀ {bs:List Nat},eZ w bs ↔ ∀ b,oV w b≠0->bs.count b<=1
 | []=>by simp [eZ]
 | c::bs=>by
  simp only [eZ,L8 (bs:=bs),List.count_cons]
  constructor
  ·rintro ⟨h1,h2⟩ b hb
   have:=h2 b hb
   by_cases hc:c=b
   ·subst hc
    have:bs.count c=0:=List.count_eq_zero.2 fun hm=>hb (h1 hm)
    simp [this]
   ·simp [hc]; exact this
  ·intro h
   refine ⟨fun hm=>?_,fun b hb=>Nat.le_trans (Nat.le_add_right _ _) (h b hb)⟩
   rcases Nat.eq_zero_or_pos (oV w c) with h1 | h1
   ·exact h1
   ·have h2:=h c (by omega)
    have h3:=List.count_pos_iff.2 hm
    rw [if_pos (by simp)] at h2
    omega
theorem EO {l l':List Nat} (h:Nc l' l) (hn:eZ w l):eZ w l':=by
 rw [L8] at hn ⊢
 exact fun b hb=>Nat.le_trans (h b) (hn b hb)
theorem qj (hk:Keeps A w w') : ∀ {bs:List Nat},(∀ b∈bs,∃ c el fz,Block w b c el fz)->eZ w bs->eZ w' bs
 | [],_,_=>trivial
 | b::bs,hb,h=>⟨fun hm=>by rw [wD hk (hb b (by simp))]; exact h.1 hm,qj hk (fun x hx=>hb x (by simp [hx])) h.2⟩
theorem ay.len : ∀ (es:List LT) {ms:List M} {vs:List Value} {ds:List T} {bs:List Nat},ay w I es ms vs ds bs->vs.length=es.length/\ds.length=es.length
 | [],_,_,_,_,h=>by unfold ay at h; obtain ⟨rfl,rfl,rfl⟩:=h; exact ⟨rfl,rfl⟩
 | e::es,ms,_,_,_,h=>by
  unfold ay at h
  obtain ⟨v,vs',d,ds',b1,b2,rfl,rfl,rfl,h1,h2⟩:=h
  have:=ay.len es h2
  simp; omega
theorem ay.split : ∀ (k:Nat) {es:List LT} {ms:List M} {vs:List Value} {ds:List T} {bs:List Nat},ay w I es ms vs ds bs ->
  ∃ b1 b2,bs=b1++b2/\ay w I (es.take k) ms (vs.take k) (ds.take k) b1/\ay w I (es.drop k) (ms.drop k) (vs.drop k) (ds.drop k) b2
 | 0,es,ms,vs,ds,bs,h=>⟨[],bs,rfl,by simp only [List.take_zero]; unfold ay; exact ⟨rfl,rfl,rfl⟩,h⟩
 | k+1,[],ms,vs,ds,bs,h=>by
  unfold ay at h
  obtain ⟨rfl,rfl,rfl⟩:=h
  refine ⟨[],[],rfl,?_,?_⟩ <;> simp only [List.take_nil,List.drop_nil] <;> unfold ay <;> exact ⟨rfl,rfl,rfl⟩
 | k+1,e::es,ms,_,_,_,h=>by
  unfold ay at h
  obtain ⟨v,vs',d,ds',b1,b2,rfl,rfl,rfl,h1,h2⟩:=h
  obtain ⟨b3,b4,rfl,h3,h4⟩:=ay.split k h2
  refine ⟨b1++b3,b4,by simp,?_,by simpa using h4⟩
  simp only [List.take_succ_cons]
  unfold ay
  exact ⟨v,_,d,_,b1,b3,rfl,rfl,rfl,h1,h3⟩
theorem ay.join : ∀ {es es':List LT} {ms:List M} {vs vs':List Value} {ds ds':List T} {b1 b2:List Nat},ay w I es ms vs ds b1->ay w I es' (ms.drop es.length) vs' ds' b2 ->
  ay w I (es++es') ms (vs++vs') (ds++ds') (b1++b2)
 | [],es',ms,vs,vs',ds,ds',b1,b2,h,h'=>by
  unfold ay at h
  obtain ⟨rfl,rfl,rfl⟩:=h
  exact h'
 | e::es,es',ms,_,vs',_,ds',_,b2,h,h'=>by
  unfold ay at h
  obtain ⟨v,vs1,d,ds1,b3,b4,rfl,rfl,rfl,h1,h2⟩:=h
  simp only [List.cons_append]
  unfold ay
  exact ⟨v,_,d,_,b3,b4++b2,rfl,rfl,by simp,h1,ay.join h2 (by rw [show ms.tail.drop es.length=ms.drop (e::es).length from by cases ms <;> simp]; exact h')⟩
mutual
theorem bQ.leaf (hs : ∀ b o,I b o->S b o) : ∀ (lt:LT) {m:M} {v:Value} {d:T} {bs:List Nat},(∀ b o,FB w bs b o->S b o)->bQ w I lt m v d bs->aJ w S lt v d
 | .sc s,m,v,d,bs,hG,h=>by unfold bQ at h; unfold aJ; exact h.1
 | .sl es,.F,v,d,bs,hG,h=>by unfold bQ at h; exact aJ.mono hs (fun _ _ _=>rfl) _ h.1
 | .sl es,.O ms,v,d,bs,hG,h=>by
  unfold bQ at h
  obtain ⟨rows,h1,h2,h3,h4⟩:=h
  unfold aJ
  rcases h4 with ⟨⟨aa,rfl⟩,rfl,-⟩ | ⟨b,cap,c,el,fz,bs',rfl,rfl,h5,h6,h7,h8,h9⟩
  ·exact ⟨aa,0,[],h1,rfl,Nat.le_refl _,Nat.zero_le _,.inl rfl⟩
  ·refine ⟨some ⟨b,0,none⟩,cap,rows,h1,rfl,h5,h3,.inr ⟨b,0,rfl,fun i hi=>?_⟩⟩
   rw [Nat.zero_add]
   obtain ⟨b',h10,h11⟩:=h9.get i hi
   have h12:=ay.leaves hs es (fun b o hb=>hG b o (rz (fun x hx=>by simp [h10 x hx]) b o hb)) h11
   have hl:=h12.len.1
   have hm:(i+1) * es.length<=cap * es.length:=Nat.mul_le_mul_right _ (by omega)
   rw [Nat.add_mul,Nat.one_mul,<-h7] at hm
   refine bW.D7 h12 (bJ.of_block h6 _ _ fun j hj=>?_) fun j hj=>hG _ _ ⟨by simp,?_⟩
   ·simp only [List.getElem_take,List.getElem_drop,Array.getElem_toList]
    rw [Array.getElem?_eq_getElem (by omega)]
   ·rw [gZ h6]; omega
theorem ay.leaves (hs : ∀ b o,I b o->S b o) : ∀ (es:List LT) {ms:List M} {vs:List Value} {ds:List T} {bs:List Nat},(∀ b o,FB w bs b o->S b o)->ay w I es ms vs ds bs->aU w S es vs ds
 | [],ms,vs,ds,bs,hG,h=>by unfold ay at h; obtain ⟨rfl,rfl,rfl⟩:=h; trivial
 | e::es,ms,vs,ds,bs,hG,h=>by
  unfold ay at h
  obtain ⟨v,vs',d,ds',b1,b2,rfl,rfl,rfl,h1,h2⟩:=h
  exact ⟨bQ.leaf hs e (fun b o hb=>hG b o (mH.2 (.inl hb))) h1,ay.leaves hs es (fun b o hb=>hG b o (mH.2 (.inr hb))) h2⟩
end
mutual
theorem bQ.blocks : ∀ (lt:LT) {m:M} {v:Value} {d:T} {bs:List Nat},bQ w I lt m v d bs->∀ b∈bs,∃ c el fz,Block w b c el fz
 | .sc s,m,v,d,bs,h=>by unfold bQ at h; rw [h.2]; simp
 | .sl es,.F,v,d,bs,h=>by unfold bQ at h; rw [h.2]; simp
 | .sl es,.O ms,v,d,bs,h=>by
  unfold bQ at h
  obtain ⟨rows,h1,h2,h3,h4⟩:=h
  rcases h4 with ⟨-,rfl,rfl⟩ | ⟨b,cap,c,el,fz,bs',rfl,rfl,h5,h6,h7,h8,h9⟩
  ·simp
  ·intro x hx
   rcases List.mem_cons.1 hx with rfl | hx
   ·exact ⟨c,el,fz,h6⟩
   ·exact nY (fun vs ds bs h=>ay.blocks es h) rows h9 x hx
theorem ay.blocks : ∀ (es:List LT) {ms:List M} {vs:List Value} {ds:List T} {bs:List Nat},ay w I es ms vs ds bs->∀ b∈bs,∃ c el fz,Block w b c el fz
 | [],ms,vs,ds,bs,h=>by unfold ay at h; rw [h.2.2]; simp
 | e::es,ms,vs,ds,bs,h=>by
  unfold ay at h
  obtain ⟨v,vs',d,ds',b1,b2,rfl,rfl,rfl,h1,h2⟩:=h
  intro x hx
  rcases List.mem_append.1 hx with hx | hx
  ·exact bQ.blocks e h1 x hx
  ·exact ay.blocks es h2 x hx
theorem nY {p:List Value->List T->List Nat->Prop} {sz:Nat} (hp : ∀ vs ds bs,p vs ds bs->∀ b∈bs,∃ c el fz,Block w b c el fz) : ∀ (rows:List (List T)) {cs:List Value} {bs:List Nat},aM p sz rows cs bs->∀ b∈bs,∃ c el fz,Block w b c el fz
 | [],cs,bs,h=>by have h:bs=[]:=h; subst h; simp
 | r::rs,cs,bs,h=>by
  obtain ⟨b1,b2,rfl,h1,h2⟩:=h
  intro x hx
  rcases List.mem_append.1 hx with hx | hx
  ·exact hp _ _ _ h1 x hx
  ·exact nY hp rs h2 x hx
end
mutual
theorem bQ.keep (hk:Keeps A w w') (hI : ∀ b o,I b o->I' b o/\cellAt w' b o=cellAt w b o) : ∀ (lt:LT) {m:M} {v:Value} {d:T} {bs:List Nat},(∀ b o,FB w bs b o->A b o)->bQ w I lt m v d bs->bQ w' I' lt m v d bs
 | .sc s,m,v,d,bs,hA,h=>by unfold bQ at *; exact h
 | .sl es,.F,v,d,bs,hA,h=>by unfold bQ at h ⊢; exact ⟨aJ.mono (fun b o h=>(hI b o h).1) (fun b o h=>(hI b o h).2) _ h.1,h.2⟩
 | .sl es,.O ms,v,d,bs,hA,h=>by
  unfold bQ at h ⊢
  obtain ⟨rows,h1,h2,h3,h4⟩:=h
  refine ⟨rows,h1,h2,h3,?_⟩
  rcases h4 with h4 | ⟨b,cap,c,el,fz,bs',rfl,rfl,h5,h6,h7,h8,h9⟩
  ·exact .inl h4
  ·right
   obtain ⟨c',hb,hsz,hcc⟩:=hk.block h6
   have e:c'=c:=by
    apply Array.ext hsz
    intro i hi1 hi2
    have:=hcc i (hA _ _ ⟨by simp,by rw [gZ h6]; exact hi2⟩)
    rw [Array.getElem?_eq_getElem hi1,Array.getElem?_eq_getElem hi2] at this
    exact Option.some.inj this
   subst e
   refine ⟨b,cap,c',el,fz,bs',rfl,rfl,h5,hb,h7,h8,aM.imp (fun vs ds b' hb' h=>?_) h9⟩
   exact ay.keep hk hI es (fun b o hb=>hA b o (rz (fun x hx=>by simp [hb' x hx]) b o hb)) h
theorem ay.keep (hk:Keeps A w w') (hI : ∀ b o,I b o->I' b o/\cellAt w' b o=cellAt w b o) : ∀ (es:List LT) {ms:List M} {vs:List Value} {ds:List T} {bs:List Nat},(∀ b o,FB w bs b o->A b o)->ay w I es ms vs ds bs->ay w' I' es ms vs ds bs
 | [],ms,vs,ds,bs,hA,h=>by unfold ay at *; exact h
 | e::es,ms,vs,ds,bs,hA,h=>by
  unfold ay at h ⊢
  obtain ⟨v,vs',d,ds',b1,b2,rfl,rfl,rfl,h1,h2⟩:=h
  exact ⟨v,vs',d,ds',b1,b2,rfl,rfl,rfl,bQ.keep hk hI e (fun b o hb=>hA b o (mH.2 (.inl hb))) h1,ay.keep hk hI es (fun b o hb=>hA b o (mH.2 (.inr hb))) h2⟩
end
theorem bQ.same {lt:LT} {m:M} {v:Value} {d:T} {bs:List Nat} (hI : ∀ b o,I b o->I' b o) (h:bQ w I lt m v d bs):bQ w I' lt m v d bs :=
 bQ.keep (Keeps.refl (fun _ _=>True) w) (fun b o hb=>⟨hI b o hb,rfl⟩) lt (fun _ _ _=>trivial) h
theorem ay.same {es:List LT} {ms:List M} {vs:List Value} {ds:List T} {bs:List Nat} (hI : ∀ b o,I b o->I' b o) (h:ay w I es ms vs ds bs):ay w I' es ms vs ds bs :=
 ay.keep (Keeps.refl (fun _ _=>True) w) (fun b o hb=>⟨hI b o hb,rfl⟩) es (fun _ _ _=>trivial) h
theorem bQ.single {lt:LT} {m:M} {v:Value} {d:T} {bs:List Nat} (h:bQ w I lt m v d bs):Single v :=
 (bQ.leaf (S:=fun _ _=>True) (fun _ _ _=>trivial) lt (fun _ _ _=>trivial) h).single
theorem zi {ms:List M} (j:Nat):ms.tail.getD j .F=ms.getD (j+1) .F:=by cases ms <;> simp [List.getD]
theorem ay.each : ∀ {es:List LT} {ms:List M} {vs:List Value} {ds:List T} {bs:List Nat},ay w I es ms vs ds bs->∃ Bs:List (List Nat),Bs.length=es.length/\bs=Bs.flatten /\
  ∀ j (h:j<es.length),bQ w I es[j] (ms.getD j .F) (vs.getD j .nilIface) (ds.getD j dflt) (Bs.getD j [])
 | [],ms,_,_,_,h=>by
  unfold ay at h
  obtain ⟨rfl,rfl,rfl⟩:=h
  exact ⟨[],rfl,rfl,fun j h=>by simp at h⟩
 | e::es,ms,_,_,_,h=>by
  unfold ay at h
  obtain ⟨v,vs',d,ds',b1,b2,rfl,rfl,rfl,h1,h2⟩:=h
  obtain ⟨Bs,h3,rfl,h4⟩:=ay.each h2
  refine ⟨b1::Bs,by simp [h3],by simp,fun j hj=>?_⟩
  cases j with
  | zero=>cases ms <;> simpa using h1
  | succ j =>
   have:=h4 j (by simpa using hj)
   rw [zi] at this
   simpa using this
theorem abb {ms:List M} (h:noO ms):ms.headD .F = .F:=by
 cases ms with
 | nil=>rfl
 | cons m ms=>cases m with
  | F=>rfl
  | O x=>exact absurd rfl (h (.O x) (by simp) x)
theorem abd {ms:List M} (h:noO ms):noO ms.tail:=fun m hm=>h m (List.mem_of_mem_tail hm)
theorem ay.flat : ∀ (es:List LT) {ms:List M} {vs:List Value} {ds:List T} {bs:List Nat},noO ms->ay w I es ms vs ds bs->bs=[]/\aU w I es vs ds
 | [],ms,vs,ds,bs,hm,h=>by unfold ay at h; obtain ⟨rfl,rfl,rfl⟩:=h; exact ⟨rfl,trivial⟩
 | e::es,ms,vs,ds,bs,hm,h=>by
  unfold ay at h
  obtain ⟨v,vs',d,ds',b1,b2,rfl,rfl,rfl,h1,h2⟩:=h
  obtain ⟨rfl,h3⟩:=ay.flat es (abd hm) h2
  rw [abb hm] at h1
  cases e with
  | sc s=>unfold bQ at h1; obtain ⟨h4,rfl⟩:=h1; exact ⟨rfl,by unfold aJ; exact h4,h3⟩
  | sl es'=>unfold bQ at h1; obtain ⟨h4,rfl⟩:=h1; exact ⟨rfl,h4,h3⟩
theorem ay.of_flat : ∀ {es:List LT} {ms:List M} {vs:List Value} {ds:List T},noO ms->aU w I es vs ds->ay w I es ms vs ds []
 | [],ms,[],[],hm,h=>by unfold ay; exact ⟨rfl,rfl,rfl⟩
 | e::es,ms,v::vs,d::ds,hm,h=>by
  unfold ay
  refine ⟨v,vs,d,ds,[],[],rfl,rfl,rfl,?_,ay.of_flat (abd hm) h.2⟩
  rw [abb hm]
  have h1:=h.1
  cases e with
  | sc s=>unfold bQ; unfold aJ at h1; exact ⟨h1,rfl⟩
  | sl es'=>unfold bQ; exact ⟨h1,rfl⟩
 | [],_,_::_,_,_,h=>h.elim
 | [],_,[],_::_,_,h=>h.elim
 | _::_,_,[],_,_,h=>h.elim
 | _::_,_,_::_,[],_,h=>h.elim
theorem D8 {es:List LT} {ms:List M} {sz:Nat} (hm:noO ms) : ∀ {rows:List (List T)} {cs:List Value} {bs:List Nat},aM (fun vs ds bs=>ay w I es ms vs ds bs) sz rows cs bs->bs=[]
 | [],cs,bs,h=>h
 | r::rs,cs,bs,h=>by
  obtain ⟨b1,b2,rfl,h1,h2⟩:=h
  rw [(ay.flat es hm h1).1,D8 hm h2]; rfl
theorem aY.cases {es:List LT} {ms:List M} {rows:List (List T)} {h:Value} {F:aA} (hr:aY w I es ms rows h F):es≠[]/\rows.length<=aK /\
  (((∃ a,h = .slice a 0 0)/\rows=[] /\ ∀ b o,¬ F b o) \/
  ∃ b cap c el fz bs,h = .slice (some ⟨b,0,none⟩) rows.length cap/\rows.length<=cap/\Block w b c el fz/\c.size=cap * es.length/\(∀ o,o<=c.size->¬ (fz.1<=o/\o<fz.2)) /\
   aM (fun vs ds bs=>ay w I es ms vs ds bs) es.length rows c.toList bs/\eZ w (b::bs) /\ ∀ b' o,F b' o ↔ (b'=b/\o<c.size)\/FB w bs b' o):=by
 obtain ⟨bs,hn,hc,hF⟩:=hr
 unfold bQ at hc
 obtain ⟨rows',h1,h2,h3,h4⟩:=hc
 cases h1
 refine ⟨h2,h3,?_⟩
 rcases h4 with ⟨h4,rfl,rfl⟩ | ⟨b,cap,c,el,fz,bs',rfl,rfl,h5,h6,h7,h8,h9⟩
 ·exact .inl ⟨h4,rfl,fun b o hb=>by have:=((hF b o).1 hb).1; cases this⟩
 ·exact .inr ⟨b,cap,c,el,fz,bs',rfl,h5,h6,h7,h8,h9,hn,fun b' o=>by rw [hF b' o,aeF,gZ h6]⟩
theorem aY.nil {es:List LT} {ms:List M} {F:aA} {aa:Option Addr} (hes:es≠[]) (hF : ∀ b o,¬ F b o):aY w I es ms [] (.slice aa 0 0) F :=
 ⟨[],trivial,by unfold bQ; exact ⟨[],rfl,hes,Nat.zero_le _,.inl ⟨⟨_,rfl⟩,rfl,rfl⟩⟩,fun b o=>⟨fun h=>(hF b o h).elim,fun h=>by have:=h.1; cases this⟩⟩
theorem aY.mk' {es:List LT} {ms:List M} {rows:List (List T)} {F:aA} {b cap:Nat} {c:Array Value} {el:TypeId} {fz:Nat×Nat} {bs:List Nat} (hes:es≠[]) (h1:rows.length<=aK) (h2:rows.length<=cap) (h3:Block w b c el fz)
  (h4:c.size=cap * es.length) (h5 : ∀ o,o<=c.size->¬ (fz.1<=o/\o<fz.2)) (h6:aM (fun vs ds bs=>ay w I es ms vs ds bs) es.length rows c.toList bs) (h7:eZ w (b::bs))
  (h8 : ∀ b' o,F b' o ↔ (b'=b/\o<c.size)\/FB w bs b' o):aY w I es ms rows (.slice (some ⟨b,0,none⟩) rows.length cap) F :=
 ⟨b::bs,h7,by unfold bQ; exact ⟨rows,rfl,hes,h1,.inr ⟨b,cap,c,el,fz,bs,rfl,rfl,h2,h3,h4,h5,h6⟩⟩,fun b' o=>by rw [h8,aeF,gZ h3]⟩
theorem aY.leaf {es:List LT} {ms:List M} {rows:List (List T)} {h:Value} {F:aA} (hr:aY w I es ms rows h F) (hs : ∀ b o,I b o->S b o) (hf : ∀ b o,F b o->S b o) :
  aJ w S (.sl es) h (.l rows):=by
 obtain ⟨bs,hn,hc,hF⟩:=hr
 exact bQ.leaf hs _ (fun b o hb=>hf b o ((hF b o).2 hb)) hc
theorem aY.keep {es:List LT} {ms:List M} {rows:List (List T)} {h:Value} {F:aA} (hr:aY w I es ms rows h F) (hk:Keeps A w w') (hA : ∀ b o,F b o->A b o)
  (hI : ∀ b o,I b o->I' b o/\cellAt w' b o=cellAt w b o):aY w' I' es ms rows h F:=by
 obtain ⟨bs,hn,hc,hF⟩:=hr
 exact ⟨bs,qj hk (bQ.blocks _ hc) hn,bQ.keep hk hI _ (fun b o hb=>hA b o ((hF b o).2 hb)) hc,fun b o=>(hF b o).trans (Ic hk (bQ.blocks _ hc) b o).symm⟩
theorem aY.same {es:List LT} {ms:List M} {rows:List (List T)} {h:Value} {F:aA} (hs : ∀ b o,I b o->I' b o) (hr:aY w I es ms rows h F):aY w I' es ms rows h F :=
 hr.keep (Keeps.refl (fun _ _=>True) w) (fun _ _ _=>trivial) fun b o hb=>⟨hs b o hb,rfl⟩
theorem aY.cell {es:List LT} {ms:List M} {rows:List (List T)} {h:Value} {F:aA} (hr:aY w I es ms rows h F) {b o:Nat} (hf:F b o) : ∃ v,cellAt w b o=some v:=by
 obtain ⟨bs,hn,hc,hF⟩:=hr
 exact Zq ((hF b o).1 hf)
theorem aY.row {es:List LT} {ms:List M} {rows:List (List T)} {h:Value} {F:aA} (hr:aY w I es ms rows h F) {r:Nat} (h5:r<rows.length) :
  ∃ b cap vs bs,h = .slice (some ⟨b,0,none⟩) rows.length cap/\bJ w b (r * es.length) vs/\ay w I es ms vs rows[r] bs/\(∀ b' o,FB w bs b' o->F b' o)/\(∀ j,j<es.length->F b (r * es.length+j)):=by
 obtain ⟨-,-,hown⟩:=hr.cases
 rcases hown with ⟨-,rfl,-⟩ | ⟨b,cap,c,el,fz,bs,rfl,h6,h7,h8,h9,h10,h11,h12⟩
 ·simp at h5
 ·obtain ⟨b',h13,h14⟩:=h10.get r h5
  have hl:=ay.len es h14
  have hm:(r+1) * es.length<=cap * es.length:=Nat.mul_le_mul_right _ (by omega)
  rw [Nat.add_mul,Nat.one_mul,<-h8] at hm
  refine ⟨b,cap,_,b',rfl,bJ.of_block h7 _ _ fun j hj=>?_,h14,fun b'' o hb=>(h12 b'' o).2 (.inr (rz h13 b'' o hb)),fun j hj=>(h12 _ _).2 (.inl ⟨rfl,by omega⟩)⟩
  simp only [List.getElem_take,List.getElem_drop,Array.getElem_toList]
  rw [Array.getElem?_eq_getElem (by omega)]
end
section
variable {w:World}
theorem D9 {Bs:List (List Nat)} {j b:Nat} (h:b∈Bs.getD j []):b∈Bs.flatten:=by
 rw [List.getD] at h
 cases hj:Bs[j]? with
 | none=>rw [hj] at h; cases h
 | some l=>rw [hj] at h; exact List.mem_flatten.2 ⟨l,List.mem_of_getElem? hj,h⟩
theorem Tv : ∀ {Bs:List (List Nat)},eZ w Bs.flatten->∀ j,eZ w (Bs.getD j [])
 | [],_,j=>by simp [eZ]
 | l::Bs,h,j=>by
  simp only [List.flatten_cons] at h
  obtain ⟨h1,h2,-⟩:=jZ.1 h
  cases j with
  | zero=>simpa using h1
  | succ j=>simpa using Tv h2 j
theorem Tw : ∀ {Bs:List (List Nat)},eZ w Bs.flatten->∀ i j,i≠j->aA.apart (FB w (Bs.getD i [])) (FB w (Bs.getD j []))
 | [],_,i,j,_=>fun b o h _=>by simp [FB] at h
 | l::Bs,h,i,j,hij=>by
  simp only [List.flatten_cons] at h
  obtain ⟨h1,h2,h3⟩:=jZ.1 h
  have key : ∀ j,aA.apart (FB w l) (FB w (Bs.getD j [])):=fun j=>fun b o h4 h5=>wE.2 h3 b o h4 (rz (fun x hx=>D9 hx) b o h5)
  cases i with
  | zero =>
   cases j with
   | zero=>exact absurd rfl hij
   | succ j=>simpa using key j
  | succ i =>
   cases j with
   | zero=>exact fun b o h4 h5=>key i b o (by simpa using h5) (by simpa using h4)
   | succ j=>simpa using Tw h2 i j (by omega)
end
mutual
theorem M.beq_eq : ∀ {a b:M},M.beq a b=true->a=b
 | .F,.F,_=>rfl
 | .O a,.O b,h=>congrArg M.O (M.bL (a:=a) (b:=b) (by simpa [M.beq] using h))
 | .F,.O _,h=>by simp [M.beq] at h
 | .O _,.F,h=>by simp [M.beq] at h
theorem M.bL : ∀ {a b:List M},M.dO a b=true->a=b
 | [],[],_=>rfl
 | a::az,b::bs,h=>by
  simp only [M.dO,Bool.and_eq_true] at h
  rw [M.beq_eq h.1,M.bL h.2]
 | [],_::_,h=>by simp [M.dO] at h
 | _::_,[],h=>by simp [M.dO] at h
end
theorem zC {ms:List M} (h:SL ms=true):noO ms:=by
 intro m hm x e
 have:=List.all_eq_true.1 h m hm
 subst e
 simp at this
end Go.E

namespace Go.E
open Go
section
variable {w:World} {I S A:aA}
end
section
variable {Γ:Ctx} {P:Program} {cf:FuncId->List Arg->R3 fZ}
variable {n:Fr} {σ:S} {g:Gh} {I:aA} {a:Act} {w:World}
variable {o:Oper} {f:FuncId} {tr:Tr} {Q:S->Tr->Prop} {K:Act->World->Prop} {Qm:Exit->Act->World->Prop}
theorem nu (κ:Key->KE) : ∀ b o,I b o->bX κ g I [] b o:=fun _ _ h=>.inl h
theorem Nf (κ:Key->KE):Cur κ []:=fun _ h=>(nomatch h)
theorem sZ (κ:Key->KE):Old κ []:=fun _ h=>(nomatch h)
theorem Tx (hR:R n σ g I a w) {l:Leaf} {v:Value} {k:List LT->List (List T)->List ED->Prog} (hl:Hr σ.k g w I l v) (h:(wW l k).wp cf σ tr Q) :
  ∃ es rows deps cO,(k es rows deps).wp cf σ cO Q/\aJ w (bX σ.k g I deps) (.sl es) v (.l rows)/\Cur σ.k deps/\Old σ.k deps /\ ∀ d∈deps,d.1∈wB l:=by
 obtain ⟨st,lt,d⟩:=l
 obtain ⟨hs,hl⟩:=hl
 unfold wW at h
 simp only at h hl
 cases lt with
 | sc s=>cases st <;> exact h.elim
 | sl es =>
  cases st with
  | sc=>exact h.elim
  | dead=>exact h.elim
  | nl =>
   obtain ⟨-,rfl,rfl⟩:=hl
   refine ⟨es,[],[],tr,h,?_,Nf _,sZ _,fun _ h=>(nomatch h)⟩
   unfold aJ
   exact ⟨none,0,[],rfl,rfl,Nat.le_refl _,Nat.zero_le _,.inl rfl⟩
  | sn ds =>
   obtain ⟨-,h1,h2⟩:=hl
   obtain ⟨h3,cO,h4⟩:=rY h
   have h5:=h2 h3
   obtain ⟨x,y,rows,rfl,h6⟩:=by unfold aJ at h5; exact h5
   exact ⟨es,_,ds,cO,h4,h2 h3,h3,h1,fun d hd=>List.mem_map.2 ⟨d,hd,rfl⟩⟩
  | sb key m cv r off =>
   obtain ⟨-,-,h1,h2⟩:=hl
   obtain ⟨h3,cO,h4⟩:=rY h
   have h5:=(h2 h3).1
   obtain ⟨x,y,rows,rfl,h6⟩:=by unfold aJ at h5; exact h5
   exact ⟨es,_,[(key,cv)],cO,h4,(h2 h3).1,h3,h1,fun d hd=>by rw [List.mem_singleton.1 hd]; exact List.mem_singleton.2 rfl⟩
  | al key m =>
   obtain ⟨-,h1,h2⟩:=hl
   obtain ⟨h3,h⟩:=h
   have h4:=h2 (Nat.eq_of_beq_eq_true h3)
   subst h4
   have hch:=hR.uH key
   split at h
   ·rename_i es' ms rows e
    rw [e] at hch
    refine ⟨es',rows,_,_,h,aY.leaf hch (fun _ _ h=>.inl h) (fun b o' hf=>.inr ⟨_,List.mem_singleton.2 rfl,.inr ⟨by simp only [e]; trivial,hf⟩⟩),?_,?_,fun d hd=>by rw [List.mem_singleton.1 hd]; exact List.mem_singleton.2 rfl⟩
    ·intro d hd; rw [List.mem_singleton.1 hd]
    ·intro d hd; rw [List.mem_singleton.1 hd]; exact Nat.le_refl _
   ·rename_i es' rows e
    rw [e] at hch
    exact ⟨es',rows,[],_,h,aJ.mono (nu _) (fun _ _ _=>rfl) _ hch,Nf _,sZ _,fun _ h=>(nomatch h)⟩
   ·exact h.elim
theorem ql (hR:R n σ g I a w) {l:Leaf} {v:Value} {k:List LT->List (List T)->List ED->Prog} (hl:Hr σ.k g w I l v) (h:(wW l k).wp cf σ tr Q) :
  ∃ es rows deps cO,(k es rows deps).wp cf σ cO Q/\aJ w (bX σ.k g I deps) (.sl es) v (.l rows)/\Cur σ.k deps/\Old σ.k deps:=by
 obtain ⟨es,rows,deps,cO,h1,h2,h3,h4,-⟩:=Tx hR hl h
 exact ⟨es,rows,deps,cO,h1,h2,h3,h4⟩
end
end Go.E

namespace Go.E
open Go
section
variable {P:Program} {w:World} {I S A:aA}
theorem addr_add (b o k:Nat):Addr.add ⟨b,o,none⟩ k=⟨b,o+k,none⟩:=by
 unfold Addr.add
 split
 ·rename_i h; subst h; rfl
 ·rfl
theorem run_load {b o:Nat} {v:Value} (h:cellAt w b o=some v):(load ⟨b,o,none⟩).run P w = .ok v w:=by
 unfold cellAt at h
 simp [load,Sem.run,h]
theorem run_loadCellsFrom {b o:Nat} : ∀ (vs:List Value) (i:Nat) (acc:Array Value),bJ w b (o+i) vs ->
  (loadCellsFrom ⟨b,o,none⟩ i vs.length acc).run P w = .ok (acc++vs.toArray) w
 | [],i,acc,h=>by simp [loadCellsFrom]
 | v::vs,i,acc,h=>by
  simp only [List.length_cons,loadCellsFrom,Sem.run_bind,addr_add,run_load h.1,Result.andThen_ok]
  rw [run_loadCellsFrom vs (i+1) (acc.push v) (by have:=h.2; rwa [show o+i+1=o+(i+1) from by omega] at this)]
  simp
theorem run_loadCells {b o:Nat} {vs:List Value} (h:bJ w b o vs):(loadCells ⟨b,o,none⟩ vs.length).run P w = .ok vs.toArray w:=by
 unfold loadCells
 rw [run_loadCellsFrom vs 0 #[] (by simpa using h)]
 simp
end
section
variable {Γ:Ctx} {P:Program} {w:World}
theorem J6 {t:TypeId} {ti:TI} (h:uT Γ P t ti):(isAgg t).run P w = .ok (zm ti.kind) w:=by
 obtain ⟨d,h1,h2⟩:=h.und
 simp only [isAgg,Sem.run_bind,run_underlying h1,Result.andThen_ok]
 cases hk:ti.kind with
 | sc s=>rw [hk] at h2; cases s <;> first | (obtain ⟨rfl,-⟩:=h2; rfl) | exact h2.elim
 | slice e=>rw [hk] at h2; obtain ⟨rfl,-⟩:=h2; rfl
 | struct fs=>rw [hk] at h2; obtain ⟨fields,rfl,-⟩:=h2; rfl
 | array m e=>rw [hk] at h2; cases h2; rfl
 | ptr e=>rw [hk] at h2; obtain ⟨rfl,-⟩:=h2; rfl
 | other =>
  rw [hk] at h2
  cases d <;> first | rfl | exact absurd rfl (h2.1 _) | exact absurd rfl (h2.2.1 _ _)
theorem run_sizeOf {t:TypeId} {ti:TI} (h:uT Γ P t ti):(sizeOf t).run P w = .ok ti.aR.length w:=by
 obtain ⟨i,h1,h2,-⟩:=h.info
 simp [sizeOf,typeInfo,h1,h2,go_sem]
theorem Bc {t:TypeId} {ti:TI} (h:uT Γ P t ti) {b o:Nat} {vs:List Value} (hv:bJ w b o vs) (hn:vs.length=ti.aR.length) :
  (zm ti.kind=true->(loadVar t ⟨b,o,none⟩).run P w = .ok (.agg vs.toArray) w) /\
  (zm ti.kind=false->∀ v,vs=[v]->(loadVar t ⟨b,o,none⟩).run P w = .ok v w):=by
 constructor
 ·intro ha
  simp only [loadVar,Sem.run_bind,J6 h,ha,Result.andThen_ok,if_true,run_sizeOf h]
  rw [<-hn]
  simp [run_loadCells hv]
 ·rintro ha v rfl
  simp only [loadVar,Sem.run_bind,J6 h,ha,Result.andThen_ok,Bool.false_eq_true,if_false]
  exact run_load hv.1
theorem L9 {t:TypeId} {ti:TI} (h:uT Γ P t ti) (ha:zm ti.kind=false):ti.aR.length=1:=by
 obtain ⟨d,h1,h2⟩:=h.und
 cases hk:ti.kind with
 | sc s=>rw [hk] at h2; cases s <;> first | (rw [h2.2]; rfl) | exact h2.elim
 | slice e=>rw [hk] at h2; obtain ⟨-,te,-,h3,-⟩:=h2; rw [h3]; rfl
 | struct fs=>rw [hk] at ha; cases ha
 | array m e=>rw [hk] at ha; cases ha
 | ptr e=>rw [hk] at h2; rw [h2.2]; rfl
 | other=>rw [hk] at h2; rw [h2.2.2]; rfl
theorem Qh {ρ:Operand->Value} {o:Oper} {t:TypeId} {x:Operand} {b o':Nat} {v:Value} (hop:o.op = .load t x) (hx:ρ x = .pointer (some ⟨b,o',none⟩))
  (h:(loadVar t ⟨b,o',none⟩).run P w = .ok v w):(execOp ρ o).run P w = .ok (.value v) w:=by
 have h1:(Instr.loadAt t (ρ x)).run P w = .ok v w:=by
  simp only [Instr.loadAt,hx,Instr.sureAddr,pure_bind]
  exact h
 simp only [execOp,hop]
 rw [Sem.run_bind,h1]
 rfl
end
section
variable {Γ:Ctx} {P:Program} {cf:FuncId->List Arg->R3 fZ}
variable {n:Fr} {σ:S} {g:Gh} {I:aA} {a:Act} {w:World}
variable {o:Oper} {f:FuncId} {tr:Tr} {Q:S->Tr->Prop} {K:Act->World->Prop} {Qm:Exit->Act->World->Prop}
theorem bS.drop {κ:Key->KE} : ∀ {ls:List Leaf} {vs:List Value} (k:Nat),bS κ g w I ls vs->bS κ g w I (ls.drop k) (vs.drop k)
 | ls,vs,0,h=>h
 | [],[],k+1,h=>trivial
 | _::ls,_::vs,k+1,h=>bS.drop k h.2
 | [],_::_,_+1,h=>h.elim
 | _::_,[],_+1,h=>h.elim
theorem bS.take {κ:Key->KE} : ∀ {ls:List Leaf} {vs:List Value} (k:Nat),bS κ g w I ls vs->bS κ g w I (ls.take k) (vs.take k)
 | ls,vs,0,h=>trivial
 | [],[],k+1,h=>trivial
 | _::ls,_::vs,k+1,h=>⟨h.1,bS.take k h.2⟩
 | [],_::_,_+1,h=>h.elim
 | _::_,[],_+1,h=>h.elim
theorem bS.len {κ:Key->KE} : ∀ {ls:List Leaf} {vs:List Value},bS κ g w I ls vs->vs.length=ls.length
 | [],[],h=>rfl
 | _::ls,_::vs,h=>by have:=bS.len h.2; simp; omega
 | [],_::_,h=>h.elim
 | _::_,[],h=>h.elim
theorem X5 {κ:Key->KE} {deps:List ED} {lt:LT} {v:Value} {d:T} (ho:Old κ deps) (hi : ∀ b o,I b o->bX κ g I deps b o)
  (h:aJ w (bX κ g I deps) lt v d):Hr κ g w I (adk deps lt d) v:=by
 unfold adk
 cases lt with
 | sl es=>exact ⟨h.single,trivial,ho,fun _=>h⟩
 | sc s=>refine ⟨h.single,s,rfl,?_⟩; unfold aJ at h; exact h
theorem ahg {α β:Type} (f:Nat->α) (n:Nat):(List.range n).map f=(List.range' 0 n).map f:=by rw [List.range_eq_range']
theorem Ma {κ:Key->KE} {S:aA} {mk:LT->T->Leaf} (hmk : ∀ lt v d,aJ w S lt v d->Hr κ g w I (mk lt d) v) :
  ∀ (size:Nat) {es:List LT} {vs:List Value} {ds:List T},aU w S es vs ds->size<=es.length ->
  bS κ g w I ((List.range size).map fun j=>mk (es.getD j default) (ds.getD j dflt)) (vs.take size)
 | 0,es,vs,ds,h,hn=>trivial
 | size+1,[],_,_,h,hn=>by simp at hn
 | size+1,e::es,[],ds,h,hn=>h.elim
 | size+1,e::es,v::vs,[],h,hn=>h.elim
 | size+1,e::es,v::vs,d::ds,h,hn=>by
  rw [List.range_succ_eq_map,List.map_cons,List.map_map]
  exact ⟨hmk _ _ _ h.1,Ma hmk size h.2 (by simpa using hn)⟩
theorem getD_drop {α:Type} (l:List α) (k j:Nat) (d:α):(l.drop k).getD j d=l.getD (k+j) d:=by
 simp [List.getD,List.getElem?_drop]
theorem abe {κ:Key->KE} {key:Key} {r off:Nat} {lt:LT} {m:M} {v:Value} {d:T} {bs:List Nat} (hl:Live (κ key).ch) (hb : ∀ b o,FB w bs b o->g.F key b o)
  (hloc : ∃ b o,addrIn (mh (κ key).ch) (g.h key) r off=some (b,o)/\cellAt w b o=some v/\g.F key b o) (h:bQ w I lt m v d bs) :
  Hr κ g w I (MQ key (κ key).bM (κ key).cv r off lt m d) v:=by
 have hs:=h.single
 unfold MQ
 cases lt with
 | sc s =>
  unfold bQ at h
  cases m <;> exact ⟨hs,s,rfl,h.1⟩
 | sl es =>
  cases m with
  | F =>
   unfold bQ at h
   exact ⟨hs,trivial,sZ _,fun _=>aJ.mono (nu _) (fun _ _ _=>rfl) _ h.1⟩
  | O x =>
   have abf : ∀ b o,g.F key b o->bX κ g I [(key,(κ key).cv)] b o:=fun b o hf=>.inr ⟨_,List.mem_singleton.2 rfl,.inr ⟨hl,hf⟩⟩
   refine ⟨hs,trivial,Nat.le_refl _,fun d hd=>by rw [List.mem_singleton.1 hd]; exact Nat.le_refl _,fun _=>⟨bQ.leaf (fun b o hi=>.inl hi) _ (fun b o hf=>abf b o (hb b o hf)) h,fun _=>?_⟩⟩
   obtain ⟨b,o,h1,h2,h3⟩:=hloc
   exact ⟨b,o,h1,h2,abf b o h3⟩
theorem amL {ms:List M} (h:noO ms) (j:Nat) : ∀ x,ms.getD j .F ≠ .O x:=by
 intro x
 rw [List.getD]
 cases hj:ms[j]? with
 | none=>simp
 | some m=>simpa using h m (List.mem_of_getElem? hj) x
theorem Zr {κ:Key->KE} {key:Key} {r off size b o0:Nat} {es:List LT} {ms:List M} {row:List T} {vs:List Value} {bs:List Nat} (hl:Live (κ key).ch) (hb : ∀ b o,FB w bs b o->g.F key b o)
  (hloc : ∀ j,j<es.length->addrIn (mh (κ key).ch) (g.h key) r j=some (b,o0+j)/\g.F key b (o0+j)) (hc:bJ w b o0 vs)
  (h:ay w I es ms vs row bs) (hn:off+size<=es.length):bS κ g w I (O4 key (κ key).bM (κ key).cv r off size es ms row) ((vs.drop off).take size):=by
 have aux : ∀ (size k:Nat) (es:List LT) (ms:List M) (vs:List Value) (ds:List T) (bs:List Nat),ay w I es ms vs ds bs->(∀ b o,FB w bs b o->g.F key b o) ->
   (∀ j v,vs[j]? = some v->∃ b o,addrIn (mh (κ key).ch) (g.h key) r (k+j)=some (b,o)/\cellAt w b o=some v/\g.F key b o)->size<=es.length ->
   bS κ g w I ((List.range size).map fun j=>MQ key (κ key).bM (κ key).cv r (k+j) (es.getD j default) (ms.getD j .F) (ds.getD j dflt)) (vs.take size):=by
  intro size
  induction size with
  | zero=>intros; trivial
  | succ size ih =>
   intro k es ms vs ds bs h hb hloc hn
   cases es with
   | nil=>simp at hn
   | cons e es =>
    unfold ay at h
    obtain ⟨v,vs',d,ds',b1,b2,rfl,rfl,rfl,h1,h2⟩:=h
    rw [List.range_succ_eq_map,List.map_cons,List.map_map]
    refine ⟨?_,?_⟩
    ·have:=abe (m:=ms.headD .F) hl (fun b o hf=>hb b o (mH.2 (.inl hf))) (hloc 0 v (by simp)) h1
     cases ms <;> simpa using this
    ·have:=ih (k+1) es ms.tail vs' ds' b2 h2 (fun b o hf=>hb b o (mH.2 (.inr hf))) (fun j v hv=>by
      have:=hloc (j+1) v (by simpa using hv)
      rwa [show k+(j+1)=k+1+j from by omega] at this) (by simpa using hn)
     have e1 : ∀ j,ms.tail.getD j .F=ms.getD (j+1) .F:=fun j=>by cases ms <;> simp [List.getD]
     simpa [Function.comp_def,Nat.add_assoc,Nat.add_comm 1,e1] using this
 obtain ⟨b1,b2,rfl,-,h2⟩:=h.split off
 have hl2:=ay.len es h
 have:=aux size off (es.drop off) (ms.drop off) (vs.drop off) (row.drop off) b2 h2 (fun b o hf=>hb b o (mH.2 (.inr hf))) (fun j v hv=>by
  rw [List.getElem?_drop] at hv
  obtain ⟨hj,rfl⟩:=List.getElem?_eq_some_iff.1 hv
  obtain ⟨h3,h4⟩:=hloc (off+j) (by omega)
  exact ⟨_,_,h3,hc.get _ hj,h4⟩) (by rw [List.length_drop]; omega)
 simpa only [getD_drop,O4] using this
theorem ajz (hΓ:eF Γ P) (hd:cZ n.np n.nt o=true) (hR:R n σ g I a w) (hK:Post P n I w Q K) {t:TypeId} {x:Operand} (hop:o.op = .load t x)
  (h:(bF Γ f o).wp cf σ tr Q):Goal P o a w K Qm:=by
 simp only [bF,hop] at h
 obtain ⟨ti,-,hty,h⟩:=fH hΓ h
 obtain ⟨e,t1,he,h⟩:=jo hR h
 have fin : ∀ (b o':Nat) (vs:List Value) (ls:List Leaf) (t':Tr),a.eval x = .pointer (some ⟨b,o',none⟩)->bJ w b o' vs->vs.length=ti.aR.length ->
   bS σ.k g w I ls vs->(put o.dst (HV (zm ti.kind) ls)).wp cf σ t' Q->Goal P o a w K Qm:=by
  intro b o' vs ls t' hx hc hn hl hp
  cases ha:zm ti.kind with
  | true =>
   rw [ha] at hp
   exact jD hd hR hK (Qh hop hx ((Bc hty hc hn).1 ha)) (Tq (by simpa using hl)) hp
  | false =>
   rw [ha] at hp
   have hn1:=L9 hty ha
   rw [hn1] at hn
   match vs,hn with
   | [v],_=>exact jD hd hR hK (Qh hop hx ((Bc hty hc (by simpa using hn1.symm)).2 ha v rfl)) (Pf hl) hp
 split at h
 ·rename_i key m r off
  obtain ⟨hs,h1,h2⟩:=he
  obtain ⟨h3,h⟩:=h
  obtain ⟨b,o',hx,jE⟩:=h2 (Nat.eq_of_beq_eq_true h3)
  have hch:=hR.uH key
  split at h
  ·rename_i ls e
   rw [e] at hch jE
   obtain ⟨h4,h⟩:=h
   obtain ⟨bb,oo,c,el,fz,hh,hblk,hsz,-,-,hls⟩:=hch
   rw [hh] at jE
   simp only [addrIn,Option.some.injEq,Prod.mk.injEq] at jE
   obtain ⟨rfl,rfl⟩:=jE
   have h5:off+ti.aR.length<=ls.length:=Nat.le_of_ble_eq_true h4
   have hcells : ∀ (vs:List Value) (k:Nat),(∀ j (hj:j<vs.length),c[k+j]? = some vs[j])->bJ w bb k vs:=by
    intro vs
    induction vs with
    | nil=>intro k _; trivial
    | cons v vs ih =>
     intro k hk
     refine ⟨?_,ih (k+1) fun j hj=>?_⟩
     ·have:=hk 0 (by simp)
      unfold cellAt World.cell?
      rw [hblk]; simpa using this
     ·have:=hk (j+1) (by simpa using hj)
      rwa [show k+(j+1)=k+1+j from by omega] at this
   refine fin bb (oo+off) (((c.toList.drop oo).take ls.length).drop off |>.take ti.aR.length) _ _ hx (hcells _ _ fun j hj=>?_) ?_ (bS.take _ (bS.drop _ hls)) h
   ·have hj':j<ti.aR.length/\off+j<ls.length/\oo+(off+j)<c.size:=by
     simp only [List.length_take,List.length_drop,Array.length_toList] at hj
     omega
    simp only [List.getElem_take,List.getElem_drop,Array.getElem_toList]
    rw [show oo+off+j=oo+(off+j) from by omega]
    exact Array.getElem?_eq_getElem hj'.2.2
   ·simp only [List.length_take,List.length_drop,Array.length_toList]
    omega
  ·rename_i es ms rows e
   rw [e] at hch jE
   obtain ⟨h4,h5,h⟩:=h
   have h4:off+ti.aR.length<=es.length:=Nat.le_of_ble_eq_true h4
   have h5:r<rows.length:=of_decide_eq_true h5
   obtain ⟨bb,cap,vs,bs,hh,h6,h7,h8,h9⟩:=aY.row hch h5
   rw [hh] at jE
   simp only [addrIn,mh,Option.some.injEq,Prod.mk.injEq,Nat.zero_add] at jE
   obtain ⟨rfl,rfl⟩:=jE
   have e1:rows.getD r []=rows[r]:=by simp [h5]
   rw [e1] at h
   have hid:=Nat.eq_of_beq_eq_true h3
   rw [<-hid] at h
   refine fin bb _ _ _ _ hx ((h6.drop off).take _) ?_ (Zr (by rw [e]; trivial) h8 (fun j hj=>⟨by rw [e,hh]; simp only [addrIn,mh,Nat.zero_add],h9 j hj⟩) h6 h7 h4) h
   rw [List.length_take,List.length_drop,(ay.len es h7).1]
   omega
  ·rename_i es rows e
   rw [e] at hch jE
   obtain ⟨h4,h5,h⟩:=h
   have h4:off+ti.aR.length<=es.length:=Nat.le_of_ble_eq_true h4
   have h5:r<rows.length:=of_decide_eq_true h5
   simp only [KC] at hch
   unfold aJ at hch
   obtain ⟨aa,cap,rows',e',hh,-,-,hrows⟩:=hch
   cases e'
   rcases hrows with rfl | ⟨bb,oo,rfl,hrows⟩
   ·simp at h5
   ·rw [hh] at jE
    simp only [addrIn,mh,Option.some.injEq,Prod.mk.injEq] at jE
    obtain ⟨rfl,rfl⟩:=jE
    obtain ⟨vs,h6,h7⟩:=(hrows r h5).vals
    have e1:rows.getD r []=rows[r]:=by simp [h5]
    rw [e1] at h
    refine fin bb _ _ _ _ hx ((h7.drop off).take _) ?_ (Ma (fun lt v d hl=>X5 (sZ _) (nu _) (aJ.mono (nu _) (fun _ _ _=>rfl) _ hl)) _ (h6.drop off) (by rw [List.length_drop]; omega)) h
    rw [List.length_take,List.length_drop,h6.len.1]
    omega
  ·rename_i es ms rows r' jj e
   rw [e] at hch jE
   obtain ⟨h4,h5,h⟩:=h
   have h4:=Nat.eq_of_beq_eq_true h4
   subst h4
   have h5:=Nat.eq_of_beq_eq_true h5
   obtain ⟨-,-,hrl,bb,cap,c,el,fz,B1,B2,hh,-,-,-,-,-,-,-,-,-,xU⟩:=hch
   have xU:=xU h5
   rw [hh] at jE
   simp only [addrIn,mh,Option.some.injEq,Prod.mk.injEq,Nat.zero_add] at jE
   obtain ⟨rfl,rfl⟩:=jE
   split at h
   ·rename_i ls eb
    obtain ⟨h6,h⟩:=h
    have h6:off+ti.aR.length<=ls.length:=Nat.le_of_ble_eq_true h6
    have hb:=hR.uH (iy key)
    rw [eb] at hb
    obtain ⟨b2,o2,c2,el2,fz2,hh2,hblk,hsz,-,-,hls⟩:=hb
    rw [xU] at hh2
    cases hh2
    refine fin bb _ ((((c2.toList.drop (r * es.length)).take ls.length).drop off).take ti.aR.length) _ _ hx (bJ.of_block hblk _ _ fun j hj=>?_) ?_ (bS.take _ (bS.drop _ hls)) h
    ·simp only [List.length_take,List.length_drop,Array.length_toList] at hj
     simp only [List.getElem_take,List.getElem_drop,Array.getElem_toList]
     rw [show r * es.length+off+j=r * es.length+(off+j) from by omega]
     exact Array.getElem?_eq_getElem (by omega)
    ·simp only [List.length_take,List.length_drop,Array.length_toList]
     omega
   ·exact h.elim
  ·exact h.elim
 ·rename_i deps aR row
  obtain ⟨hs,h1,h2⟩:=he
  obtain ⟨h3,h⟩:=h
  obtain ⟨h4,t',h⟩:=rY h
  obtain ⟨b,o',hx,hrow⟩:=h2 h4
  obtain ⟨vs,h5,h6⟩:=hrow.vals
  have hle:ti.aR.length<=aR.length:=Nat.le_of_ble_eq_true h3
  refine fin b o' (vs.take ti.aR.length) _ _ hx (h6.take _) ?_ (Ma (fun lt v d hl=>X5 h1 (fun _ _ h=>.inl h) hl) _ h5 hle) h
  rw [List.length_take,h5.len.1]
  omega
 ·exact h.elim
end
end Go.E

namespace Go.E
open Go
section
variable {Γ:Ctx} {P:Program} {w:World} {ρ:Operand->Value} {o:Oper}
theorem KD {t:TypeId} {x:Operand} {i b o':Nat} {fields:Array Field} {fd:Field} {j:TypeInfo} (hop:o.op = .fieldAddr t x i) (hx:ρ x = .pointer (some ⟨b,o',none⟩))
  (hu:P.underlying t=some (.struct fields)) (hf:fields[i]? = some fd) (hi:P.info? fd.type=some j) (h0:j.size≠0) :
  (execOp ρ o).run P w = .ok (.value (.pointer (some ⟨b,o'+fd.offset,none⟩))) w:=by
 have h1:(Instr.fieldAt t (ρ x) i).run P w = .ok (.pointer (some ⟨b,o'+fd.offset,none⟩)) w:=by
  have h2:(sizeOf fd.type).run P w = .ok j.size w:=by simp [sizeOf,typeInfo,hi,go_sem]
  simp only [Instr.fieldAt,hx,Instr.sureAddr,Sem.run_bind,run_underlying hu,Result.andThen_ok,hf,pure_bind,fieldPlace,h2,h0,if_false,addr_add]
  rfl
 simp only [execOp,hop]
 rw [Sem.run_bind,h1]
 rfl
theorem X6 {t:TypeId} {x:Operand} {i:Nat} {fields:Array Field} {fd:Field} {cs:Array Value} {v:Value} (hop:o.op = .field t x i) (hx:ρ x = .agg cs)
  (hu:P.underlying t=some (.struct fields)) (hf:fields[i]? = some fd) (hp:(part fd.type cs fd.offset).run P w = .ok v w) :
  (execOp ρ o).run P w = .ok (.value v) w:=by
 have h1:(Instr.field t (ρ x) i).run P w = .ok v w:=by
  simp only [Instr.field,hx,asAgg,Sem.run_bind,run_underlying hu,Result.andThen_ok,hf,pure_bind]
  exact hp
 simp only [execOp,hop]
 rw [Sem.run_bind,h1]
 rfl
theorem Ws {t e:TypeId} {x ix:Operand} {b o' len cap:Nat} {k:IntKind} {i:Int} {sz:Nat} (hop:o.op = .indexAddr t x ix)
  (hx:ρ x = .slice (some ⟨b,o',none⟩) len cap) (hi:ρ ix = .int k i) (hu:P.underlying t=some (.slice e)) (hs:(sizeOf e).run P w = .ok sz w) (h:0<=i/\i<len) :
  (execOp ρ o).run P w = .ok (.value (.pointer (some ⟨b,o'+i.toNat * sz,none⟩))) w:=by
 have h1:(Instr.indexAt t (ρ x) (ρ ix)).run P w = .ok (.pointer (some ⟨b,o'+i.toNat * sz,none⟩)) w:=by
  simp only [Instr.indexAt,hx,hi,asIntOf,Sem.run_bind,run_underlying hu,Result.andThen_ok,pure_bind,h,and_self,if_true,hs,addr_add,Sem.run_pure]
 simp only [execOp,hop]
 rw [Sem.run_bind,h1]
 rfl
theorem afK {t:TypeId} {x ix:Operand} {k:IntKind} {i:Int} {s:ByteArray} (hop:o.op = .index t x ix)
  (hx:ρ x = .string s) (hi:ρ ix = .int k i) (hu:P.underlying t=some .string) (h:0<=i/\i<s.size) :
  (execOp ρ o).run P w = .ok (.value (.int .u8 (s.data.toList.getD i.toNat 0).toNat)) w:=by
 have hlt:i.toNat<s.size:=by omega
 have hs:s[i.toNat]? = some (s.data.toList.getD i.toNat 0):=by
  rw [getElem?_pos s i.toNat hlt]
  have:i.toNat<s.data.toList.length:=by simpa using hlt
  rw [List.getD,List.getElem?_eq_getElem this]
  rfl
 have h1:(Instr.index t (ρ x) (ρ ix)).run P w = .ok (.int .u8 (s.data.toList.getD i.toNat 0).toNat) w:=by
  simp only [Instr.index,hx,hi,asIntOf,Sem.run_bind,run_underlying hu,Result.andThen_ok,pure_bind,h.1,if_true,hs,Sem.run_pure]
 simp only [execOp,hop]
 rw [Sem.run_bind,h1]
 rfl
theorem Zt {fn:FuncId} {cs:Array Operand} (hop:o.op = .makeFunc (.func fn) #[] cs) :
  (execOp ρ o).run P w = .ok (.value (.func (.func fn) #[] (cs.map ρ))) w:=by
 simp only [execOp,hop]
 rw [Sem.run_bind]
 simp [Instr.makeFunc]
theorem Ie {b:Builtin} {c:Call} {v:Value} (hop:o.op = .call c) (hc:c.callee = .builtin b)
  (h:(builtin b c.argTypes o.type (c.args.map fun | .const _=>true | _=>false) (c.args.map ρ)).run P w = .ok (.value v) w) :
  (execOp ρ o).run P w = .ok (.value v) w:=by
 simp only [execOp,hop]
 rw [Sem.run_bind]
 simp only [resolve,hc]
 exact h
end
section
variable {Γ:Ctx} {P:Program} {cf:FuncId->List Arg->R3 fZ}
variable {n:Fr} {σ:S} {g:Gh} {I:aA} {a:Act} {w:World}
variable {o:Oper} {f:FuncId} {tr:Tr} {Q:S->Tr->Prop} {K:Act->World->Prop} {Qm:Exit->Act->World->Prop}
def wF (κ:Key->KE) (g:Gh) (w:World) (I:aA):List eU->List Value->Prop
 | [],[]=>True
 | l::ls,v::vs=>jw κ g w I l v/\wF κ g w I ls vs
 | _,_=>False
theorem zD (hR:R n σ g I a w) : ∀ {xs:List Operand} {k:List eU->Prog} {tr:Tr},(Qe xs k).wp cf σ tr Q ->
  ∃ es cO,wF σ.k g w I es (xs.map a.eval)/\(k es).wp cf σ cO Q
 | [],k,tr,h=>⟨[],tr,trivial,h⟩
 | x::xs,k,tr,h=>by
  obtain ⟨e,t1,he,h⟩:=jo hR h
  obtain ⟨es,t2,hes,h⟩:=zD hR (xs:=xs) h
  exact ⟨e::es,t2,⟨he,hes⟩,h⟩
theorem Qi {t:TypeId} {ti:TI} {fs:List (Nat×TypeId)} (h:uT Γ P t ti) (hk:ti.kind = .struct fs) :
  ∃ fields,P.underlying t=some (.struct fields) /\ ∀ (i off:Nat) (ft:TypeId),fs[i]? = some (off,ft)->∃ fd j,fields[i]? = some fd/\fd.offset=off/\fd.type=ft/\P.info? ft=some j/\j.size≠0:=by
 obtain ⟨d,h1,h2⟩:=h.und
 rw [hk] at h2
 obtain ⟨fields,rfl,rfl,h3⟩:=h2
 refine ⟨fields,h1,fun i off ft hi=>?_⟩
 simp only [List.getElem?_map,Option.map_eq_some_iff,Prod.mk.injEq] at hi
 obtain ⟨fd,hfd,rfl,rfl⟩:=hi
 obtain ⟨j,hj,hj0⟩:=h3 fd (List.mem_of_getElem? hfd)
 exact ⟨fd,j,by simpa using hfd,rfl,rfl,hj,hj0⟩
theorem lM {t e:TypeId} {ti:TI} (h:uT Γ P t ti) (hk:ti.kind = .slice e) :
  P.underlying t=some (.slice e) /\ ∃ te,Γ.ty e=some te/\ti.aR=[.sl te.aR]/\te.aR≠[]:=by
 obtain ⟨d,h1,h2⟩:=h.und
 rw [hk] at h2
 obtain ⟨rfl,h3⟩:=h2
 exact ⟨h1,h3⟩
theorem Ng {t:TypeId} {ti:TI} (h:uT Γ P t ti) (hk:ti.kind = .sc .str):P.underlying t=some .string:=by
 obtain ⟨d,h1,h2⟩:=h.und
 rw [hk] at h2
 rw [h1,h2.1]
theorem Pg {k:TK} (h:HZ k=true):k = .sc .str:=by
 unfold HZ at h
 split at h
 ·rfl
 ·cases h
theorem r9 {k:TK} (h:sQ k=true) : ∃ e,k = .slice e:=by
 unfold sQ at h
 split at h
 ·exact ⟨_,rfl⟩
 ·cases h
theorem Zu (hΓ:eF Γ P) (hd:cZ n.np n.nt o=true) (hR:R n σ g I a w) (hK:Post P n I w Q K) {t:TypeId} {x:Operand} {i:Nat} (hop:o.op = .fieldAddr t x i)
  (h:(bF Γ f o).wp cf σ tr Q):Goal P o a w K Qm:=by
 simp only [bF,hop] at h
 obtain ⟨ti,-,hty,h⟩:=fH hΓ h
 obtain ⟨e,t1,he,h⟩:=jo hR h
 split at h
 ·rename_i fs hk
  obtain ⟨⟨off,ft⟩,hfs,h⟩:=dK h
  obtain ⟨fields,hu,hfd⟩:=Qi hty hk
  obtain ⟨fd,j,h1,rfl,rfl,h2,h3⟩:=hfd i off ft hfs
  split at h
  ·rename_i k m r oo _
   obtain ⟨hs,h4,h5⟩:=he
   obtain ⟨h6,h⟩:=h
   obtain ⟨b,o',hx,ha⟩:=h5 (Nat.eq_of_beq_eq_true h6)
   refine jD hd hR hK (KD hop hx hu h1 h2 h3) (e:=.ptr k m r (oo+fd.offset)) ⟨⟨fun _ h=>(nomatch h),fun _ h=>(nomatch h)⟩,h4,fun _=>⟨b,o'+fd.offset,rfl,?_⟩⟩ h
   unfold addrIn at ha ⊢
   split at ha
   ·cases ha; simp [Nat.add_assoc]
   ·cases ha; simp [Nat.add_assoc]
   ·cases ha
  ·rename_i deps aR row _
   obtain ⟨hs,h4,h5⟩:=he
   obtain ⟨h8,h⟩:=h
   obtain ⟨h6,t2,h⟩:=rY h
   obtain ⟨b,o',hx,ha⟩:=h5 h6
   refine jD hd hR hK (KD hop hx hu h1 h2 h3) (e:=.rp deps (aR.drop fd.offset) (row.drop fd.offset)) ⟨⟨fun _ h=>(nomatch h),fun _ h=>(nomatch h)⟩,h4,fun _=>⟨b,o'+fd.offset,rfl,?_⟩⟩ h
   have drop : ∀ (k:Nat) {es:List LT} {o:Nat} {row:List T},k<=es.length->bW w (bX σ.k g I deps) (bX σ.k g I deps) es b o row->bW w (bX σ.k g I deps) (bX σ.k g I deps) (es.drop k) b (o+k) (row.drop k):=by
    intro k
    induction k with
    | zero=>intro es o row _ h; exact h
    | succ k ih =>
     intro es o row hk h
     cases es with
     | nil=>simp at hk
     | cons e es =>
      unfold bW at h
      obtain ⟨d,rest,v,rfl,-,-,-,h⟩:=h
      have:=ih (by simpa using hk) h
      rwa [show o+1+k=o+(k+1) from by omega] at this
   exact drop _ (Nat.le_of_ble_eq_true h8) ha
  ·exact h.elim
 ·exact h.elim
theorem ahh (hΓ:eF Γ P) (hd:cZ n.np n.nt o=true) (hR:R n σ g I a w) (hK:Post P n I w Q K) {t:TypeId} {x:Operand} {i:Nat} (hop:o.op = .field t x i)
  (h:(bF Γ f o).wp cf σ tr Q):Goal P o a w K Qm:=by
 simp only [bF,hop] at h
 obtain ⟨ti,-,hty,h⟩:=fH hΓ h
 obtain ⟨e,t1,he,h⟩:=jo hR h
 split at h
 ·rename_i fs ls hk
  obtain ⟨⟨off,ft⟩,hfs,h⟩:=dK h
  obtain ⟨tf,-,htf,h⟩:=fH hΓ h
  obtain ⟨fields,hu,hfd⟩:=Qi hty hk
  obtain ⟨fd,j,h1,rfl,rfl,h2,h3⟩:=hfd i off ft hfs
  obtain ⟨cs,hx,hls⟩:=he
  obtain ⟨h4,h⟩:=h
  have h4:fd.offset+tf.aR.length<=ls.length:=Nat.le_of_ble_eq_true h4
  have hlen:=hls.len
  cases ha:zm tf.kind with
  | true =>
   rw [ha] at h
   refine jD hd hR hK (X6 hop hx hu h1 (v:=.agg (cs.extract fd.offset (fd.offset+tf.aR.length))) ?_) (Tq ?_) h
   ·simp [part,J6 htf,ha,run_sizeOf htf]
   ·have:=(hls.drop fd.offset).take tf.aR.length
    simpa [Array.toList_extract,List.extract_eq_take_drop,Nat.add_sub_cancel_left] using this
  | false =>
   rw [ha] at h
   have h1':=L9 htf ha
   have hlt:fd.offset<cs.size:=by simp at hlen; omega
   refine jD hd hR hK (X6 hop hx hu h1 (v:=cs[fd.offset]) ?_) (Pf ?_) h
   ·simp [part,J6 htf,ha,hlt]
   ·have:=(hls.drop fd.offset).take tf.aR.length
    rw [h1'] at this ⊢
    have e:(List.drop fd.offset cs.toList).take 1=[cs[fd.offset]]:=by
     rw [List.drop_eq_getElem_cons (by simpa using hlt)]
     rfl
    rwa [e] at this
 ·exact h.elim
theorem Zv (hΓ:eF Γ P) (hd:cZ n.np n.nt o=true) (hR:R n σ g I a w) (hK:Post P n I w Q K) {t:TypeId} {x i:Operand} (hop:o.op = .indexAddr t x i)
  (h:(bF Γ f o).wp cf σ tr Q):Goal P o a w K Qm:=by
 simp only [bF,hop] at h
 obtain ⟨ti,-,hty,h⟩:=fH hΓ h
 obtain ⟨e,t1,he,h⟩:=jo hR h
 obtain ⟨ei,t2,hei,h⟩:=jo hR h
 obtain ⟨s,d,rfl,hv,h⟩:=nX hei h
 split at h
 ·rename_i _ el tes l hk Zw _ _
  obtain ⟨ix,hix,rfl,-⟩:=hv
  obtain ⟨hu,te,hte,hl,-⟩:=lM hty hk
  have hsz:=run_sizeOf (w:=w) (hΓ.ty _ _ hte)
  rw [Zw] at hl
  simp only [List.cons.injEq,LT.sl.injEq,and_true] at hl
  subst hl
  have fin : ∀ (es:List LT) (rows:List (List T)) (S:aA),aJ w S (.sl es) (a.eval x) (.l rows)->es.length=te.aR.length->0<=ix/\ix<rows.length ->
    ∃ b oo len cap,a.eval x = .slice (some ⟨b,oo,none⟩) len cap/\(execOp a.eval o).run P w = .ok (.value (.pointer (some ⟨b,oo+ix.toNat * es.length,none⟩))) w /\
     ∀ (hi:ix.toNat<rows.length),bW w S S es b (oo+ix.toNat * es.length) rows[ix.toNat]:=by
   intro es rows S oG hlen hb
   unfold aJ at oG
   obtain ⟨aa,cap,rows',e1,hv,-,-,hrows⟩:=oG
   cases e1
   rcases hrows with rfl | ⟨b,oo,rfl,hrows⟩
   ·simp at hb; omega
   ·refine ⟨b,oo,_,_,hv,?_,fun hi=>hrows _ hi⟩
    rw [hlen]
    exact Ws hop hv hix hu hsz hb
  split at h
  ·rename_i key m hst
   obtain ⟨hs,hl⟩:=he
   simp only [hst] at hl
   obtain ⟨-,h1,h2⟩:=hl
   obtain ⟨h3,h⟩:=h
   have hid:=Nat.eq_of_beq_eq_true h3
   have hval:=h2 hid
   have hch:=hR.uH key
   split at h
   ·rename_i es ms rows e
    rw [e] at hch
    obtain ⟨h4,h5,h⟩:=h
    obtain ⟨b,oo,len,cap,hv,hrun,-⟩:=fin es rows (fun _ _=>True) (by rw [hval]; exact aJ.mono (fun _ _ _=>trivial) (fun _ _ _=>rfl) _ (aY.leaf (S:=fun _ _=>True) hch (fun _ _ _=>trivial) (fun _ _ _=>trivial)))
     (Nat.eq_of_beq_eq_true h4) (of_decide_eq_true h5)
    refine jD hd hR hK hrun (e:=.ptr key m ix.toNat 0) ⟨⟨fun _ h=>(nomatch h),fun _ h=>(nomatch h)⟩,h1,fun _=>⟨b,_,rfl,?_⟩⟩ h
    rw [<-hval,hv,e]
    simp [addrIn,mh]
   ·rename_i es rows e
    rw [e] at hch
    obtain ⟨h4,h5,h⟩:=h
    obtain ⟨b,oo,len,cap,hv,hrun,-⟩:=fin es rows I (by rw [hval]; exact hch) (Nat.eq_of_beq_eq_true h4) (of_decide_eq_true h5)
    refine jD hd hR hK hrun (e:=.ptr key m ix.toNat 0) ⟨⟨fun _ h=>(nomatch h),fun _ h=>(nomatch h)⟩,h1,fun _=>⟨b,_,rfl,?_⟩⟩ h
    rw [<-hval,hv,e]
    simp [addrIn,mh]
   ·exact h.elim
  ·obtain ⟨es,rows,deps,t',h,h1,h2,h3⟩:=ql hR he h
   obtain ⟨h4,h5,h⟩:=h
   have hb:=of_decide_eq_true h5
   simp only [T.int] at hb
   obtain ⟨b,oo,len,cap,hv,hrun,hrow⟩:=fin es rows _ h1 (Nat.eq_of_beq_eq_true h4) hb
   have hlt:ix.toNat<rows.length:=by omega
   refine jD hd hR hK hrun (e:=.rp deps es (rows.getD ix.toNat [])) ⟨⟨fun _ h=>(nomatch h),fun _ h=>(nomatch h)⟩,h3,fun _=>⟨b,_,rfl,?_⟩⟩ h
   have e1:rows.getD ix.toNat []=rows[ix.toNat]:=by simp [hlt]
   rw [e1]
   exact hrow hlt
 ·exact h.elim
theorem ahj (hΓ:eF Γ P) (hd:cZ n.np n.nt o=true) (hR:R n σ g I a w) (hK:Post P n I w Q K) {t:TypeId} {x i:Operand} (hop:o.op = .index t x i)
  (h:(bF Γ f o).wp cf σ tr Q):Goal P o a w K Qm:=by
 simp only [bF,hop] at h
 obtain ⟨ti,-,hty,h⟩:=fH hΓ h
 obtain ⟨e,t1,he,h⟩:=jo hR h
 obtain ⟨ei,t2,hei,h⟩:=jo hR h
 obtain ⟨s,d,rfl,hv,h⟩:=nX he h
 obtain ⟨s',d',rfl,hv',h⟩:=nX hei h
 split at h
 ·have hk:ti.kind = .sc .str:=by assumption
  obtain ⟨str,hs,rfl,-⟩:=hv
  obtain ⟨ix,hix,rfl,-⟩:=hv'
  obtain ⟨h1,h⟩:=h
  have h1:=of_decide_eq_true h1
  simp only [T.int,T.str] at h1
  refine mG hd hR hK (s:=.int .u8) (afK hop hs hix (Ng hty hk) h1) ⟨_,rfl,rfl,?_⟩ h
  have:=UInt8.toNat_lt (str.data.toList.getD ix.toNat 0)
  simp only [IntKind.min,IntKind.max,IntKind.bits,IntKind.signed]
  constructor
  ·simp
  ·simp only [Bool.false_eq_true,if_false]
   omega
 ·exact h.elim
theorem abg (hd:cZ n.np n.nt o=true) (hR:R n σ g I a w) (hK:Post P n I w Q K) {fn:FuncId} {fs cs:Array Operand} (hop:o.op = .makeFunc (.func fn) fs cs)
  (h:(bF Γ f o).wp cf σ tr Q):Goal P o a w K Qm:=by
 simp only [bF,hop] at h
 cases he:fs.isEmpty with
 | false=>simp only [he,cond_false] at h; exact h.elim
 | true =>
  simp only [he,cond_true] at h
  have hfs:fs = #[]:=by simpa using he
  subst hfs
  obtain ⟨es,t',hes,h⟩:=zD hR h
  obtain ⟨h1,h⟩:=h
  refine jD hd hR hK (Zt hop) (e:=.fn fn es) ⟨_,rfl,?_⟩ h
  have aux : ∀ (es:List eU) (vs:List Value),wF σ.k g w I es vs->es.all Zf=true->oN σ.k g w I es vs:=by
   intro es
   induction es with
   | nil=>intro vs h _; cases vs with | nil=>trivial | cons=>exact h.elim
   | cons e es ih =>
    intro vs h hf
    cases vs with
    | nil=>exact h.elim
    | cons v vs =>
     simp only [List.all_cons,Bool.and_eq_true] at hf
     refine ⟨?_,ih vs h.2 hf.2⟩
     have h1:=h.1
     cases e <;> first | exact h1 | (simp [Zf] at hf)
  simpa using aux es _ hes h1
end
end Go.E

namespace Go.E
open Go
section
variable {Γ:Ctx} {P:Program} {w:World} {ρ:Operand->Value} {o:Oper}
theorem abh {t:TypeId} {ts:Array TypeId} {ty:TypeId} {s:ByteArray} (ht:ts[0]? = some t) (hu:P.underlying t=some .string) :
  (Builtin.len_ ts ty #[.string s]).run P w = .ok (.int .i64 s.size) w:=by
 simp [Builtin.len_,ht,run_underlying hu,goInt]
theorem run_len_slice {t e:TypeId} {ts:Array TypeId} {ty:TypeId} {a:Option Addr} {len cap:Nat} (ht:ts[0]? = some t) (hu:P.underlying t=some (.slice e)) :
  (Builtin.len_ ts ty #[.slice a len cap]).run P w = .ok (.int .i64 len) w:=by
 simp [Builtin.len_,ht,run_underlying hu,goInt]
theorem GH {c:Call} {v:Value} (hop:o.op = .call c) (hc:c.callee = .builtin .len)
  (h:(Builtin.len_ c.argTypes o.type (c.args.map ρ)).run P w = .ok v w) :
  (execOp ρ o).run P w = .ok (.value v) w:=by
 refine Ie hop hc ?_
 simp only [builtin]
 rw [Sem.run_bind,h]
 rfl
theorem qm {v:Value} {k:IntKind} {i:Int} {y:Nat} {code:BoundsCode} (hv:v = .int k i) (h:0<=i/\i<=y) :
  (Instr.sliceBound v y code).run P w = .ok i.toNat w:=by
 subst hv
 simp [Instr.sliceBound,asIntOf,h]
def GI (o:Option Value) (d x:Int):Prop:=(o=none/\x=d) \/ ∃ k,o=some (.int k x)
theorem Tz {sl:Bool} {len cap:Nat} {lo hi:Option Value} {l h:Int} (hlo:GI lo 0 l) (hhi:GI hi len h) (h1:0<=h/\h<=len) (h2:0<=l/\l<=h) (hc:len<=cap) :
  (Instr.sliceBounds sl len cap lo hi none).run P w = .ok (l.toNat,h.toNat,cap) w:=by
 have h3:0<=h/\h<=(cap:Int):=⟨h1.1,by omega⟩
 have h4:0<=l/\l<=(h.toNat:Int):=⟨h2.1,by omega⟩
 rcases hlo with ⟨rfl,rfl⟩ | ⟨k,rfl⟩ <;> rcases hhi with ⟨rfl,rfl⟩ | ⟨k',rfl⟩
 ·simp [Instr.sliceBounds]
 ·simp [Instr.sliceBounds,qm rfl h3]
 ·simp only [Instr.sliceBounds,pure_bind,Sem.run_bind]
  simp only [Sem.run_pure,Result.andThen_ok]
  have h5:0<=l/\l<=(len:Int):=by omega
  simp [qm rfl h5]
 ·simp only [Instr.sliceBounds,pure_bind,Sem.run_bind]
  simp [qm rfl h3,qm rfl h4]
theorem Wt {t:TypeId} {x:Operand} {lo hi:Option Operand} {s:ByteArray} {l h:Int} (hop:o.op = .slice t x lo hi none) (hx:ρ x = .string s)
  (hu:P.underlying t=some .string) (hlo:GI (lo.map ρ) 0 l) (hhi:GI (hi.map ρ) s.size h) (h1:0<=h/\h<=s.size) (h2:0<=l/\l<=h) :
  (execOp ρ o).run P w = .ok (.value (.string (s.extract l.toNat h.toNat))) w:=by
 have h3:(Instr.sliceAt t (ρ x) (lo.map ρ) (hi.map ρ) none).run P w = .ok (.string (s.extract l.toNat h.toNat)) w:=by
  simp only [Instr.sliceAt,Sem.run_bind,run_underlying hu,Result.andThen_ok,Instr.slice,hx]
  simp [Tz (P:=P) (w:=w) (sl:=false) hlo hhi h1 h2 (Nat.le_refl _)]
 simp only [execOp,hop]
 rw [Sem.run_bind,show (none:Option Operand).map ρ=none from rfl,h3]
 rfl
theorem ER {t e:TypeId} {x:Operand} {lo hi:Option Operand} {aa:Option Addr} {len cap sz:Nat} {l h:Int} (hop:o.op = .slice t x lo hi none) (hx:ρ x = .slice aa len cap)
  (hu:P.underlying t=some (.slice e)) (hs:(sizeOf e).run P w = .ok sz w) (hlo:GI (lo.map ρ) 0 l) (hhi:GI (hi.map ρ) len h) (h1:0<=h/\h<=len) (h2:0<=l/\l<=h) (hc:len<=cap) :
  (execOp ρ o).run P w = .ok (.value (.slice (if cap=l.toNat then aa else aa.map (·.add (l.toNat * sz))) (h.toNat-l.toNat) (cap-l.toNat))) w:=by
 have h3:(Instr.sliceAt t (ρ x) (lo.map ρ) (hi.map ρ) none).run P w = .ok (.slice (if cap=l.toNat then aa else aa.map (·.add (l.toNat * sz))) (h.toNat-l.toNat) (cap-l.toNat)) w:=by
  simp only [Instr.sliceAt,Sem.run_bind,run_underlying hu,Result.andThen_ok,Instr.slice,hx]
  simp [Tz (P:=P) (w:=w) (sl:=true) hlo hhi h1 h2 hc,hs]
 simp only [execOp,hop]
 rw [Sem.run_bind,show (none:Option Operand).map ρ=none from rfl,h3]
 rfl
end
section
variable {Γ:Ctx} {P:Program} {cf:FuncId->List Arg->R3 fZ}
variable {n:Fr} {σ:S} {g:Gh} {I:aA} {a:Act} {w:World}
variable {o:Oper} {f:FuncId} {tr:Tr} {Q:S->Tr->Prop} {K:Act->World->Prop} {Qm:Exit->Act->World->Prop}
theorem afL {κ:Key->KE} {e:eU} {vs:List Value} (h:wF κ g w I [e] vs) : ∃ v,vs=[v]/\jw κ g w I e v:=by
 match vs,h with
 | [v],h=>exact ⟨v,rfl,h.1⟩
theorem ES {S:aA} {es:List LT} {v:Value} {rows:List (List T)} (h:aJ w S (.sl es) v (.l rows)) :
  ∃ aa cap,v = .slice aa rows.length cap/\rows.length<=cap/\rows.length<=aK /\
   (rows=[] \/ ∃ b o,aa=some ⟨b,o,none⟩ /\ ∀ i (h:i<rows.length),bW w S S es b (o+i * es.length) rows[i]):=by
 unfold aJ at h
 obtain ⟨aa,cap,rows',e1,hv,h1,h2,h3⟩:=h
 cases e1
 exact ⟨aa,cap,hv,h1,h2,h3⟩
theorem J7 {S:aA} {es:List LT} {aa:Option Addr} {cap:Nat} {rows:List (List T)} (h1:rows.length<=cap) (h2:rows.length<=aK)
  (h3:rows=[] \/ ∃ b o,aa=some ⟨b,o,none⟩ /\ ∀ i (h:i<rows.length),bW w S S es b (o+i * es.length) rows[i]):aJ w S (.sl es) (.slice aa rows.length cap) (.l rows):=by
 unfold aJ
 exact ⟨aa,cap,rows,rfl,rfl,h1,h2,h3⟩
theorem Nh {e:eU} {v:Value} {d0:Nat} (hdst:o.dst=some d0) (hd:cZ n.np n.nt o=true) (hR:R n σ g I a w) (hK:Post P n I w Q K)
  (hrun:(execOp a.eval o).run P w = .ok (.value v) w) (he:jw σ.k g w I e v) (h:(Prog.kJ d0 e .ret).wp cf σ tr Q):Goal P o a w K Qm :=
 jD hd hR hK hrun he (by unfold put; rw [hdst]; exact h)
theorem alb (hΓ:eF Γ P) (hd:cZ n.np n.nt o=true) (hR:R n σ g I a w) (hK:Post P n I w Q K) {c:Call} (hop:o.op = .call c) (hc:c.callee = .builtin .len)
  (h:(bF Γ f o).wp cf σ tr Q):Goal P o a w K Qm:=by
 simp only [bF,hop,hc] at h
 obtain ⟨t,ht,h⟩:=dK h
 obtain ⟨ti,-,hty,h⟩:=fH hΓ h
 obtain ⟨es,t1,hes,h⟩:=zD hR h
 split at h
 ·rename_i l _ _
  obtain ⟨v,hv,hl⟩:=afL hes
  have hargs:c.args.map a.eval = #[v]:=by
   apply Array.toList_inj.1; simpa using hv
  split at h
  ·rename_i hst hlt
   obtain ⟨hk,h⟩:=h
   obtain ⟨hs,hl⟩:=hl
   simp only [hst] at hl
   obtain ⟨s,e1,hl⟩:=hl
   rw [hlt] at e1
   cases e1
   obtain ⟨s,rfl,hd',hsz⟩:=hl
   rw [hd'] at h
   refine mG hd hR hK (s:=.int .i64) (GH hop hc (by rw [hargs]; exact abh ht (Ng hty (Pg hk)))) ⟨_,rfl,rfl,?_⟩ h
   have e1:IntKind.i64.min = -9223372036854775808:=by decide
   rw [e1,Zp]
   simp only [T.str]
   omega
  ·obtain ⟨hk,h⟩:=h
   obtain ⟨es,rows,deps,t',h,oG,-,-⟩:=ql hR hl h
   obtain ⟨aa,cap,rfl,h1,h2,-⟩:=ES oG
   obtain ⟨e,hk⟩:=r9 hk
   obtain ⟨hu,-⟩:=lM hty hk
   have h:=h (decide_eq_true h2)
   refine mG hd hR hK (s:=.int .i64) (GH hop hc (by rw [hargs]; exact run_len_slice ht hu)) ⟨_,rfl,rfl,?_⟩ h
   have e1:IntKind.i64.min = -9223372036854775808:=by decide
   unfold aK at h2
   rw [e1,Zp]
   omega
 ·exact h.elim
theorem abj (hR:R n σ g I a w) {e:eU} {v:Value} {k:Int->Prog} (he:jw σ.k g w I e v)
  (h:(uQ e fun s t=>match s with | .int _=>k t.int | _=>.fail).wp cf σ tr Q) : ∃ kd x,v = .int kd x/\(k x).wp cf σ tr Q:=by
 obtain ⟨s,d,rfl,hv,h⟩:=nX he h
 split at h
 ·obtain ⟨x,hx,rfl,-⟩:=hv
  exact ⟨_,x,hx,h⟩
 ·exact h.elim
theorem uU (hR:R n σ g I a w) (lo hi:Option Operand) {Mc Rk:Option eU} {nn:Nat} {k:Int->Int->Prog}
  (hlo : ∀ x,lo=some x->∃ e,Mc=some e/\jw σ.k g w I e (a.eval x)) (ET:lo=none->Mc=none)
  (hhi : ∀ x,hi=some x->∃ e,Rk=some e/\jw σ.k g w I e (a.eval x)) (Ph:hi=none->Rk=none)
  (h:(sliceBound Rk nn fun h=>sliceBound Mc 0 fun a=>k h a).wp cf σ tr Q) :
  ∃ l hh,GI (lo.map a.eval) 0 l/\GI (hi.map a.eval) nn hh/\(k hh l).wp cf σ tr Q:=by
 have one : ∀ (x:Option Operand) (e:Option eU) (d:Int) (k:Int->Prog),(∀ y,x=some y->∃ e',e=some e'/\jw σ.k g w I e' (a.eval y))->(x=none->e=none) ->
   (sliceBound e d k).wp cf σ tr Q->∃ v,GI (x.map a.eval) d v/\(k v).wp cf σ tr Q:=by
  intro x e d k h1 h2 h
  cases x with
  | none=>rw [h2 rfl] at h; exact ⟨d,.inl ⟨rfl,rfl⟩,h⟩
  | some y =>
   obtain ⟨e',rfl,he⟩:=h1 y rfl
   obtain ⟨kd,v,hv,h⟩:=abj hR he h
   exact ⟨v,.inr ⟨kd,by simp [hv]⟩,h⟩
 obtain ⟨hh,h1,h⟩:=one hi Rk nn _ hhi Ph h
 obtain ⟨l,h2,h⟩:=one lo Mc 0 _ hlo ET h
 exact ⟨l,hh,h2,h1,h⟩
theorem X7 {S:aA} {es:List LT} {aa:Option Addr} {cap:Nat} {rows:List (List T)} {l h:Nat} (hl:aJ w S (.sl es) (.slice aa rows.length cap) (.l rows)) (h1:h<=rows.length) (h2:l<=h) :
  aJ w S (.sl es) (.slice (if cap=l then aa else aa.map (·.add (l * es.length))) (h-l) (cap-l)) (.l ((rows.take h).drop l)):=by
 obtain ⟨aa',cap',e1,h3,h4,h5⟩:=ES hl
 cases e1
 have hlen:((rows.take h).drop l).length=h-l:=by simp; omega
 rw [<-hlen]
 refine J7 (by omega) (by omega) ?_
 by_cases hz:h=l
 ·left; apply List.length_eq_zero_iff.1; omega
 ·rcases h5 with rfl | ⟨b,o,rfl,h5⟩
  ·simp at h1; omega
  ·right
   have hne:cap≠l:=by omega
   refine ⟨b,o+l * es.length,by simp [hne,addr_add],fun i hi=>?_⟩
   have hi':i+l<rows.length:=by omega
   have:=h5 (l+i) (by omega)
   have e1:(List.drop l (List.take h rows))[i]=rows[l+i]:=by
    simp [List.getElem_drop,List.getElem_take]
   rw [e1,Nat.add_assoc,<-Nat.add_mul]
   exact this
theorem Cv (hΓ:eF Γ P) (hd:cZ n.np n.nt o=true) (hR:R n σ g I a w) (hK:Post P n I w Q K) {t:TypeId} {ti:TI} {x:Operand} {lo hi:Option Operand} {d0:Nat} (hop:o.op = .slice t x lo hi none)
  (hdst:o.dst=some d0) (hty:uT Γ P t ti) {e:eU} (he:jw σ.k g w I e (a.eval x)) {Mc Rk:Option eU}
  (hlo : ∀ x,lo=some x->∃ e,Mc=some e/\jw σ.k g w I e (a.eval x)) (ET:lo=none->Mc=none)
  (hhi : ∀ x,hi=some x->∃ e,Rk=some e/\jw σ.k g w I e (a.eval x)) (Ph:hi=none->Rk=none)
  (h:(nN ti 0 d0 e Mc Rk).wp cf σ tr Q):Goal P o a w K Qm:=by
 unfold nN at h
 obtain ⟨l,rfl,hl,h⟩:=EN he h
 simp only at h
 split at h
 ·rename_i hst hlt
  obtain ⟨hk,h⟩:=h
  obtain ⟨hs,hl⟩:=hl
  simp only [hst] at hl
  obtain ⟨s,e1,hl⟩:=hl
  rw [hlt] at e1
  cases e1
  obtain ⟨s,hx,hd',hsz⟩:=hl
  rw [hd'] at h
  obtain ⟨lv,hv,h1,h2,h3,h4,h⟩:=uU hR lo hi hlo ET hhi Ph h
  have h3:=of_decide_eq_true h3
  have h4:=of_decide_eq_true h4
  have hrun:=Wt (w:=w) hop hx (Ng hty (Pg hk)) h1 h2 h3 h4
  rw [<-hdst] at h
  refine mG hd hR hK (s:=.str) hrun ⟨_,rfl,rfl,?_⟩ h
  simp only [ByteArray.size_extract]
  omega
 ·obtain ⟨es,rows,deps,t',h,oG,h1,h2⟩:=ql hR hl h
  obtain ⟨hk,h⟩:=h
  split at hk
  ·rename_i tes Zw
   simp only [Bool.and_eq_true] at hk
   obtain ⟨hk,hlen⟩:=hk
   have hlen:=Nat.eq_of_beq_eq_true hlen
   obtain ⟨el,hk⟩:=r9 hk
   obtain ⟨hu,te,hte,hl',-⟩:=lM hty hk
   rw [Zw] at hl'
   simp only [List.cons.injEq,LT.sl.injEq,and_true] at hl'
   subst hl'
   obtain ⟨aa,cap,hv,hcap,-,-⟩:=ES oG
   obtain ⟨lv,hv',hb1,hb2,hb3,hb4,h⟩:=uU hR lo hi hlo ET hhi Ph h
   have hb3:=of_decide_eq_true hb3
   have hb4:=of_decide_eq_true hb4
   have hrun:=ER hop hv hu (run_sizeOf (w:=w) (hΓ.ty _ _ hte)) hb1 hb2 hb3 hb4 hcap
   rw [<-hlen] at hrun
   rw [hv] at oG
   have hfin:=X7 (l:=lv.toNat) (h:=hv'.toNat) oG (by omega) (by omega)
   exact Nh (e:=.one ⟨.sn deps,.sl es,.l ((rows.take hv'.toNat).drop lv.toNat)⟩) hdst hd hR hK hrun ⟨hfin.single,trivial,h2,fun _=>hfin⟩ h
  ·cases hk
theorem Bd {ρ:Operand->Value} {s t:TypeId} {x:Operand} {v:Value} {w':World} (hop:o.op = .convert s t x) (h:(convert s t (ρ x)).run P w = .ok v w') :
  (execOp ρ o).run P w = .ok (.value v) w':=by
 simp only [execOp,hop]
 rw [Sem.run_bind,h]
 rfl
theorem Ni {S:aA} : ∀ (rows:List (List T)) (b o:Nat),(∀ i (h:i<rows.length),bW w S S [.sc (.int .u8)] b (o+i * 1) rows[i]) ->
  ∃ ns:List Int,bJ w b o (ns.map (Value.int .u8))/\ns.length=rows.length/\qd rows=⟨(ns.map fun n=>UInt8.ofNat n.toNat).toArray⟩
 | [],b,o,_=>⟨[],trivial,rfl,rfl⟩
 | r::rs,b,o,h=>by
  have h0:=h 0 (by simp)
  unfold bW at h0
  obtain ⟨d,rest,v,e1,-,hc,hl,-⟩:=h0
  unfold aJ at hl
  obtain ⟨x,rfl,rfl,-⟩:=hl
  obtain ⟨ns,h1,h2,h3⟩:=Ni rs b (o+1) fun i hi=>by
   have:=h (i+1) (by simpa using hi)
   rw [show o+1+i * 1=o+(i+1) * 1 from by omega]
   simpa using this
  refine ⟨x::ns,⟨by simpa using hc,h1⟩,by simp [h2],?_⟩
  simp only [List.getElem_cons_zero] at e1
  unfold qd at h3 ⊢
  have h3:=List.toArray_inj (ByteArray.mk.inj h3)
  rw [List.map_cons,List.map_cons,h3,e1]
  rfl
theorem foldl_push (ns:List Int) : ∀ (acc:ByteArray),ns.foldl (fun r n=>r.push (UInt8.ofNat n.toNat)) acc=⟨(acc.data.toList++ns.map fun n=>UInt8.ofNat n.toNat).toArray⟩:=by
 induction ns with
 | nil=>intro acc; simp
 | cons n ns ih =>
  intro acc
  simp only [List.foldl_cons,ih]
  obtain ⟨data⟩:=acc
  simp [ByteArray.push]
theorem Zx {S:aA} {v:Value} {rows:List (List T)} (h:aJ w S (.sl [.sc (.int .u8)]) v (.l rows)) :
  (Conv.bytesToString v).run P w = .ok (.string (qd rows)) w/\(qd rows).size=rows.length:=by
 obtain ⟨aa,cap,rfl,h1,h2,h3⟩:=ES h
 have hsz:(qd rows).size=rows.length:=by simp [qd,ByteArray.size]
 refine ⟨?_,hsz⟩
 rcases h3 with rfl | ⟨b,o,rfl,h3⟩
 ·cases aa with
  | none=>simp [Conv.bytesToString,qd]; rfl
  | some aa =>
   have:=run_bytesToString (P:=P) w aa 0 cap [] (by simp [loadCells,loadCellsFrom])
   exact this.trans rfl
 ·obtain ⟨ns,h4,h5,h6⟩:=Ni rows b o (by simpa using h3)
  have:=run_bytesToString (P:=P) w ⟨b,o,none⟩ rows.length cap ns (by
   have:=run_loadCells (P:=P) h4
   simpa [h5] using this)
  rw [this,h6,foldl_push]
  simp
theorem TA {k:TK} (h:R9 k=true):k = .sc (.int .u8):=by
 unfold R9 at h
 split at h
 ·rfl
 ·cases h
theorem Rl (hΓ:eF Γ P) (hd:cZ n.np n.nt o=true) (hR:R n σ g I a w) (hK:Post P n I w Q K) {s t:TypeId} {ts tt:TI} {x:Operand} {d0:Nat} (hop:o.op = .convert s t x)
  (hdst:o.dst=some d0) (hts:uT Γ P s ts) (htt:uT Γ P t tt) {e:eU} (he:jw σ.k g w I e (a.eval x)) (hno : ¬ (ts.kind = .sc .str /\ ∃ el,tt.kind = .slice el))
  (h:(H6 Γ d0 ts tt e).wp cf σ tr Q):Goal P o a w K Qm:=by
 obtain ⟨ds,hus,hks⟩:=hts.und
 obtain ⟨dt,hut,hkt⟩:=htt.und
 unfold H6 at h
 split at h
 ·rename_i k k' e1 e2
  rw [e1] at hks; rw [e2] at hkt
  obtain ⟨rfl,-⟩:=hks
  obtain ⟨rfl,-⟩:=hkt
  obtain ⟨st,d,rfl,hv,h⟩:=nX he h
  split at h
  ·rw [<-hdst] at h
   obtain ⟨i,hv,rfl,-⟩:=hv
   exact mG hd hR hK (s:=.int k') (v:=.int k' (k'.wrap i)) (Bd hop (by rw [hv]; simp [convert,run_underlying hus,run_underlying hut,Conv.intToInt])) xk h
  ·exact h.elim
 ·rename_i e1 e2
  rw [e1] at hks; rw [e2] at hkt
  obtain ⟨rfl,-⟩:=hks
  obtain ⟨rfl,-⟩:=hkt
  obtain ⟨st,d,rfl,hv,h⟩:=nX he h
  split at h
  ·rw [<-hdst] at h
   have hv':=hv
   obtain ⟨i,hv,rfl,-⟩:=hv
   exact mG hd hR hK (s:=.str) (v:=.string i) (Bd hop (by rw [hv]; simp [convert,run_underlying hus,run_underlying hut])) (by rw [<-hv]; exact hv') h
  ·exact h.elim
 ·rename_i e1 e2; exact absurd ⟨e1,_,e2⟩ hno
 ·rename_i el e1 e2
  rw [e1] at hks; rw [e2] at hkt
  obtain ⟨rfl,-⟩:=hks
  obtain ⟨rfl,-⟩:=hkt
  obtain ⟨te,-,hte,h⟩:=fH hΓ h
  obtain ⟨hb,h⟩:=h
  obtain ⟨de,hue,hke⟩:=hte.und
  rw [TA hb] at hke
  obtain ⟨rfl,-⟩:=hke
  obtain ⟨l,rfl,hl,h⟩:=EN he h
  obtain ⟨es,rows,deps,t',h,oG,-,-⟩:=ql hR hl h
  split at h
  ·rw [<-hdst] at h
   obtain ⟨h1,h2⟩:=Zx (P:=P) oG
   obtain ⟨aa,cap,hv,hc1,hc2,-⟩:=ES oG
   refine mG hd hR hK (s:=.str) (Bd hop (v:=.string (qd rows)) ?_) ⟨_,rfl,rfl,?_⟩ h
   ·rw [hv] at h1 ⊢
    rw [run_convert_bytes_string (P:=P) w s t el aa _ _ hus hue hut]
    exact h1
   ·unfold aK at hc2
    omega
  ·exact h.elim
 ·exact h.elim
end
end Go.E

namespace Go.E
open Go
theorem Keeps.weaken {A B:aA} {w w':World} (h:Keeps A w w') (hab : ∀ b o,B b o->A b o):Keeps B w w' :=
 ⟨h.size,fun b x hx=>by
  obtain ⟨y,hy,hk⟩:=h.obj b x hx
  refine ⟨y,hy,?_⟩
  cases x <;> simp only [oW] at hk ⊢ <;> try exact hk
  obtain ⟨c',h1,h2,h3⟩:=hk
  exact ⟨c',h1,h2,fun o ho=>h3 o (hab b o ho)⟩,h.os,h.output,h.tape⟩
def Gh.set (g:Gh) (k:Key) (h:Value) (F:aA):Gh:=⟨fun u=>if u=k then h else g.h u,fun u=>if u=k then F else g.F u,g.D⟩
@[simp] theorem Gh.nO (g:Gh) (k:Key) (h:Value) (F:aA):(g.set k h F).h k=h:=by simp [Gh.set]
@[simp] theorem Gh.jq (g:Gh) (k:Key) (h:Value) (F:aA):(g.set k h F).F k=F:=by simp [Gh.set]
theorem Gh.xq (g:Gh) {k u:Key} (h:Value) (F:aA) (hu:u≠k):(g.set k h F).h u=g.h u:=by simp [Gh.set,hu]
theorem Gh.tq (g:Gh) {k u:Key} (h:Value) (F:aA) (hu:u≠k):(g.set k h F).F u=g.F u:=by simp [Gh.set,hu]
theorem aP (σ:S) (k:Key) (e:KE):(σ.bE k e).k k=e:=by simp [S.bE,fD]
theorem aN (σ:S) {k u:Key} (e:KE) (h:u≠k):(σ.bE k e).k u=σ.k u:=by
 have:dD u k=false:=by
  cases hb:dD u k
  ·rfl
  ·exact absurd ((dW _ _).1 hb) h
 simp [S.bE,this]
section
variable {P:Program} {w w':World} {I I' A:aA} {κ κ':Key->KE} {g g':Gh}
theorem sj {n:Fr} {σ:S} {a:Act} (hR:R n σ g I a w) {k:Key} (hl:Live (σ.k k).ch) {b o:Nat} (hf:g.F k b o) : ∃ v,cellAt w b o=some v:=by
 have h:=hR.uH k
 cases hc:(σ.k k).ch with
 | gone=>rw [hc] at hl; exact hl.elim
 | fz es rows=>rw [hc] at hl; exact hl.elim
 | box ls =>
  rw [hc] at h
  obtain ⟨b',o',c,el,fz,-,h1,h2,-,h3,-⟩:=h
  obtain ⟨rfl,h4,h5⟩:=(h3 b o).1 hf
  rw [lJ h1]
  exact ⟨_,Array.getElem?_eq_getElem (by omega)⟩
 | row es ms rows =>
  rw [hc] at h
  exact aY.cell h hf
 | Hz m j ls =>
  rw [hc] at h
  obtain ⟨⟨b',o',c,el,fz,-,h1,h2,-,h3,-⟩,-⟩:=h
  obtain ⟨rfl,h4,h5⟩:=(h3 b o).1 hf
  rw [lJ h1]
  exact ⟨_,Array.getElem?_eq_getElem (by omega)⟩
 | hol es ms rows r j =>
  rw [hc] at h
  obtain ⟨-,-,-,b',cap,c,el,fz,B1,B2,-,-,h1,-,-,-,-,-,h3,-⟩:=h
  rcases (h3 b o).1 hf with ⟨rfl,h4,-⟩ | h4
  ·rw [lJ h1]
   exact ⟨_,Array.getElem?_eq_getElem h4⟩
  ·exact Zq h4
theorem lX {b o:Nat} (h : ∃ v,cellAt w b o=some v):b<w.heap.size:=by
 obtain ⟨v,h⟩:=h
 unfold cellAt World.cell? at h
 simp only at h
 split at h
 ·rename_i hb
  exact (Array.getElem?_eq_some_iff.1 hb).1
 ·cases h
theorem mF.keep {ls:List Leaf} {h:Value} {F:aA} (e:fM κ g w I κ' g' w' I') (hr:mF κ g w I ls h F) (hk:Keeps A w w') (hA : ∀ b o,F b o->A b o) :
  mF κ' g' w' I' ls h F:=by
 obtain ⟨b,o,c,el,fz,h1,h2,h3,h4,h5,h6⟩:=hr
 obtain ⟨c',h7,h8,h9⟩:=hk.block h2
 refine ⟨b,o,c',el,fz,h1,h7,by omega,h4,h5,?_⟩
 have:(c'.toList.drop o).take ls.length=(c.toList.drop o).take ls.length:=by
  apply List.ext_getElem?
  intro i
  by_cases hi:i<ls.length
  ·rw [List.getElem?_take_of_lt hi,List.getElem?_take_of_lt hi,List.getElem?_drop,List.getElem?_drop,Array.getElem?_toList,Array.getElem?_toList]
   exact h9 _ (hA _ _ ((h5 b (o+i)).2 ⟨rfl,by omega,by omega⟩))
  ·rw [List.getElem?_eq_none (by simp; omega),List.getElem?_eq_none (by simp; omega)]
 rw [this]
 exact e.lfs h6
theorem Tj.keep {k:Key} {m j:Nat} {ls:List Leaf} {h:Value} {F:aA} (e:fM κ g w I κ' g' w' I') (hr:Tj κ g w I k m j ls h F) (hk:Keeps A w w') (hA : ∀ b o,F b o->A b o) :
  Tj κ' g' w' I' k m j ls h F:=by
 obtain ⟨⟨b,o,c,el,fz,h1,h2,h3,h4,h5,h6⟩,h7,h8⟩:=hr
 obtain ⟨c',h9,h10,h11⟩:=hk.block h2
 refine ⟨⟨b,o,c',el,fz,h1,h9,by omega,h4,h5,?_⟩,Nat.le_trans h7 (e.bM _),fun hi=>?_⟩
 ·have:(c'.toList.drop (o+m)).take ls.length=(c.toList.drop (o+m)).take ls.length:=by
   apply List.ext_getElem?
   intro i
   by_cases hi:i<ls.length
   ·rw [List.getElem?_take_of_lt hi,List.getElem?_take_of_lt hi,List.getElem?_drop,List.getElem?_drop,Array.getElem?_toList,Array.getElem?_toList]
    exact h11 _ (hA _ _ ((h5 b (o+m+i)).2 ⟨rfl,by omega,by omega⟩))
   ·rw [List.getElem?_eq_none (by simp; omega),List.getElem?_eq_none (by simp; omega)]
  rw [this]
  exact e.lfs h6
 ·have h12:(κ (nI k)).bM=j:=by have:=e.bM (nI k); omega
  rw [(e.head _ (hi.trans h12.symm)).1]; exact h8 h12
theorem Tk.keep {k:Key} {es:List LT} {ms:List M} {rows:List (List T)} {r j:Nat} {h:Value} {F:aA} (e:fM κ g w I κ' g' w' I') (hr:Tk κ g w I k es ms rows r j h F) (hk:Keeps A w w') (hA : ∀ b o,F b o->A b o) :
  Tk κ' g' w' I' k es ms rows r j h F:=by
 obtain ⟨h0,h1,h2,b,cap,c,el,fz,B1,B2,h3,h4,h5,h6,h7,h8,h9,h10,h11,h12,h13⟩:=hr
 obtain ⟨c',hb,hsz,hcc⟩:=hk.block h5
 have hb1 : ∀ b∈B1++B2,∃ c el fz,Block w b c el fz:=fun x hx=>(List.mem_append.1 hx).elim (nY (I:=I) (fun vs ds bs h=>ay.blocks es h) _ h8 x) (nY (I:=I) (fun vs ds bs h=>ay.blocks es h) _ h9 x)
 have hcell : ∀ o,o<c.size->¬ (r * es.length<=o/\o<(r+1) * es.length)->c'[o]? = c[o]?:=fun o ho hn=>hcc o (hA _ _ ((h11 b o).2 (.inl ⟨rfl,ho,hn⟩)))
 have hF : ∀ x∈[B1,B2],∀ b o,FB w x b o->A b o:=fun x hx b o hf=>hA b o ((h11 b o).2 (.inr (rz (fun y hy=>by
  rcases List.mem_cons.1 hx with rfl | hx
  ·simp [hy]
  ·rw [List.mem_singleton.1 hx] at hy; simp [hy]) b o hf)))
 have hm:(r+1) * es.length<=cap * es.length:=Nat.mul_le_mul_right _ (by omega)
 have hr1:(rows.take r).length=r:=by rw [List.length_take]; omega
 refine ⟨h0,h1,h2,b,cap,c',el,fz,B1,B2,h3,h4,hb,hsz.trans h6,by rw [hsz]; exact h7,?_,?_,qj hk (fun x hx=>by
  rcases List.mem_cons.1 hx with rfl | hx
  ·exact ⟨c,el,fz,h5⟩
  ·exact hb1 x hx) h10,fun b' o'=>?_,Nat.le_trans h12 (e.bM _),fun hi=>?_⟩
 ·refine aM.cells (aM.imp (fun vs ds b' hb' h=>ay.keep hk e.jm es (fun b o hf=>hF B1 (by simp) b o (rz hb' b o hf)) h) h8) ?_
  rw [hr1]
  apply List.ext_getElem?
  intro i
  by_cases hi:i<r * es.length
  ·rw [List.getElem?_take_of_lt hi,List.getElem?_take_of_lt hi,Array.getElem?_toList,Array.getElem?_toList]
   exact hcell i (by rw [Nat.add_mul,Nat.one_mul] at hm; omega) (by omega)
  ·rw [List.getElem?_eq_none (by simp; omega),List.getElem?_eq_none (by simp; omega)]
 ·refine aM.cells (aM.imp (fun vs ds b' hb' h=>ay.keep hk e.jm es (fun b o hf=>hF B2 (by simp) b o (rz hb' b o hf)) h) h9) ?_
  congr 1
  apply List.ext_getElem?
  intro i
  rw [List.getElem?_drop,List.getElem?_drop,Array.getElem?_toList,Array.getElem?_toList]
  by_cases hi:(r+1) * es.length+i<c.size
  ·exact hcell _ hi (by omega)
  ·rw [Array.getElem?_eq_none (by omega),Array.getElem?_eq_none (by omega)]
 ·rw [h11,hsz,Ic hk hb1]
 ·have h14:(κ (iy k)).bM=j:=by have:=e.bM (iy k); omega
  rw [(e.head _ (hi.trans h14.symm)).1]; exact h13 h14
theorem KC.keep {k:Key} {ch:Ch} (e:fM κ g w I κ' g' w' I') (hk:Keeps A w w') (hA:Live ch->∀ b o,g.F k b o->A b o) (h1:g'.h k=g.h k) (h2:g'.F k=g.F k)
  (h:KC κ g w I k ch):KC κ' g' w' I' k ch:=by
 cases ch with
 | gone=>trivial
 | fz es rows=>simp only [KC] at h ⊢; rw [h1]; exact e.leaf h
 | box ls=>simp only [KC] at h ⊢; rw [h1,h2]; exact h.keep e hk (hA trivial)
 | row es ms rows=>simp only [KC] at h ⊢; rw [h1,h2]; exact h.keep hk (hA trivial) e.jm
 | Hz m j ls=>simp only [KC] at h ⊢; rw [h1,h2]; exact h.keep e hk (hA trivial)
 | hol es ms rows r j=>simp only [KC] at h ⊢; rw [h1,h2]; exact h.keep e hk (hA trivial)
end
section
variable {n:Fr} {σ:S} {g:Gh} {I:aA} {a:Act} {w w':World}
theorem Keeps.qM {w w':World} (h:Keeps (fun _ _=>True) w w') {b o:Nat} (hv : ∃ v,cellAt w b o=some v):cellAt w' b o=cellAt w b o:=h.cell trivial hv
theorem ajA (hR:R n σ g I a w) (k:Key) (e:KE) (h:Value) (F:aA) (h1:(σ.k k).bM<e.bM) (h2:(σ.k k).cv<e.cv) (hk:Keeps (fun _ _=>True) w w') :
  fM σ.k g w I (σ.bE k e).k (g.set k h F) w' I where
 cv u:=by by_cases hu:u=k; subst hu; rw [aP]; omega; rw [aN _ _ hu]; exact Nat.le_refl _
 bM u:=by by_cases hu:u=k; subst hu; rw [aP]; omega; rw [aN _ _ hu]; exact Nat.le_refl _
 foot u hc hl b o hf:=by
  by_cases hu:u=k
  ·subst hu; rw [aP] at hc; omega
  ·rw [aN _ _ hu,Gh.tq _ _ _ hu]
   exact ⟨.inl ⟨hl,hf⟩,hk.qM (sj hR hl hf)⟩
 head u hc:=by
  by_cases hu:u=k
  ·subst hu; rw [aP] at hc; omega
  ·rw [aN _ _ hu,Gh.xq _ _ _ hu]
   exact ⟨rfl,rfl⟩
 jm b o h:=⟨h,hk.qM (hR.zA b o h)⟩
 dd b o h:=⟨h,hk.qM (hR.x.awf b o (hR.x.da b o h))⟩
theorem R.touch (hR:R n σ g I a w) {σ':S} {g':Gh} {I':aA} (T:Key->Prop) (Z:aA) (hs:σ'.s=σ.s) (hD:g'.D=g.D)
  (hsame : ∀ k,¬ T k->σ'.k k=σ.k k/\g'.h k=g.h k/\g'.F k=g.F k)
  (hT : ∀ k,T k->(σ.k k).cv<(σ'.k k).cv/\(σ.k k).bM<=(σ'.k k).bM/\((σ'.k k).bM=(σ.k k).bM->g'.h k=g.h k/\mh (σ'.k k).ch=mh (σ.k k).ch))
  (hpar : ∀ k,T k->fP n.np k->Live (σ'.k k).ch->g'.h k=n.H k)
  (hF : ∀ k,T k->Live (σ'.k k).ch->∀ b o,g'.F k b o->Z b o\/w.heap.size<=b)
  (hsep : ∀ k k',T k->T k'->Live (σ'.k k).ch->Live (σ'.k k').ch->k≠k'->aA.apart (g'.F k) (g'.F k'))
  (hZ : ∀ u,¬ T u->Live (σ.k u).ch->aA.apart (g.F u) Z) (hZI:aA.apart Z I) (hZA:aA.apart Z n.A)
  (hk:Keeps (fun b o=>¬ Z b o) w w')
  (hi1 : ∀ b o,I b o->I' b o) (hi2 : ∀ b o,I' b o->I b o\/Z b o\/w.heap.size<=b) (hi3 : ∀ k,T k->Live (σ'.k k).ch->aA.apart (g'.F k) I') (hi4 : ∀ b o,I' b o->∃ v,cellAt w' b o=some v)
  (hch:fM σ.k g w I σ'.k g' w' I'->∀ k,T k->KC σ'.k g' w' I' k (σ'.k k).ch):R n σ' g' I' a w'/\fM σ.k g w I σ'.k g' w' I':=by
 have ev:fM σ.k g w I σ'.k g' w' I':=by
  refine ⟨fun k=>?_,fun k=>?_,fun k hc hl b o hf=>?_,fun k hc=>?_,fun b o h=>⟨hi1 b o h,hk.cell (fun hz=>hZI b o hz h) (hR.zA b o h)⟩,fun b o h=>⟨hD ▸ h,hk.cell (fun hz=>hZA b o hz (hR.x.da b o h)) (hR.x.awf b o (hR.x.da b o h))⟩⟩
  ·by_cases ht:T k
   ·exact Nat.le_of_lt (hT k ht).1
   ·rw [(hsame k ht).1]; exact Nat.le_refl _
  ·by_cases ht:T k
   ·exact (hT k ht).2.1
   ·rw [(hsame k ht).1]; exact Nat.le_refl _
  ·by_cases ht:T k
   ·have:=(hT k ht).1; omega
   ·rw [(hsame k ht).1,(hsame k ht).2.2]
    exact ⟨.inl ⟨hl,hf⟩,hk.cell (fun hz=>hZ k ht hl b o hf hz) (sj hR hl hf)⟩
  ·by_cases ht:T k
   ·exact (hT k ht).2.2 hc
   ·rw [(hsame k ht).1]; exact ⟨(hsame k ht).2.1,rfl⟩
 have hap : ∀ u,¬ T u->Live (σ.k u).ch->∀ k,T k->Live (σ'.k k).ch->∀ b o,g.F u b o->g'.F k b o->False:=fun u hu hl k hk' hlk b o hfu hf=>by
  rcases hF k hk' hlk b o hf with hh | hh
  ·exact hZ u hu hl b o hfu hh
  ·have:=lX (sj hR hl hfu); omega
 refine ⟨⟨hR.size,hR.nd,fun t=>by rw [hs]; exact ev.ent (hR.slots t),fun u=>?_,fun u v hu hv huv=>?_,fun u hu=>?_,hi4,hR.x.step (hk.weaken fun b o ha hz=>hZA b o hz ha) hD (fun u hu=>?_) (fun b o hi=>?_)⟩,ev⟩
 ·by_cases ht:T u
  ·exact hch ev u ht
  ·obtain ⟨h1,h2,h3⟩:=hsame u ht
   rw [h1]
   exact KC.keep ev hk (fun hl b o hf hz=>hZ u ht hl b o hf hz) h2 h3 (hR.uH u)
 ·by_cases ht:T u
  ·by_cases hv':T v
   ·exact hsep u v ht hv' hu hv huv
   ·rw [(hsame v hv').1] at hv
    rw [(hsame v hv').2.2]
    exact fun b o h1 h2=>hap v hv' hv u ht hu b o h2 h1
  ·rw [(hsame u ht).1] at hu
   rw [(hsame u ht).2.2]
   by_cases hv':T v
   ·exact hap u ht hu v hv' hv
   ·rw [(hsame v hv').1] at hv
    rw [(hsame v hv').2.2]
    exact hR.sep u v hu hv huv
 ·by_cases ht:T u
  ·exact hi3 u ht hu
  ·rw [(hsame u ht).1] at hu
   rw [(hsame u ht).2.2]
   intro b o hf hi
   rcases hi2 b o hi with hi | hi | hi
   ·exact hR.jm u hu b o hf hi
   ·exact hZ u ht hu b o hf hi
   ·have:=lX (sj hR hu hf); omega
 ·by_cases ht:T u
  ·refine ⟨fun hp=>.inr (hpar u ht hp hu),fun b o hf ha=>?_⟩
   rcases hF u ht hu b o hf with hz | hz
   ·exact hZA b o hz ha
   ·have:=lX (hR.x.awf b o ha); omega
  ·rw [(hsame u ht).1] at hu
   rw [(hsame u ht).2.1,(hsame u ht).2.2]
   exact ⟨fun _=>.inl ⟨hu,rfl⟩,hR.x.wC u hu⟩
 ·rcases hi2 b o hi with hi | hi | hi
  ·exact .inl hi
  ·exact .inr fun ha=>hZA b o hi ha
  ·exact .inr fun ha=>by have:=lX (hR.x.awf b o ha); omega
theorem R.ahk (hR:R n σ g I a w) (k:Key) (e:KE) (h:Value) (F:aA) (h1:(σ.k k).bM<e.bM) (h2:(σ.k k).cv<e.cv) (hk:Keeps (fun _ _=>True) w w')
  (hkp : ¬ fP n.np k) (hF : ∀ b o,F b o->w.heap.size<=b) (hch:KC (σ.bE k e).k (g.set k h F) w' I k e.ch):R n (σ.bE k e) (g.set k h F) I a w':=by
 refine (hR.touch (σ':=σ.bE k e) (g':=g.set k h F) (I':=I) (w':=w') (fun u=>u=k) (fun _ _=>False) rfl rfl (fun u hu=>⟨aN _ _ hu,Gh.xq _ _ _ hu,Gh.tq _ _ _ hu⟩) (fun u hu=>?_) (fun u hu hp=>?_) (fun u hu _ b o hf=>?_) (fun u v hu hv _ _ hne=>?_)
  (fun _ _ _ _ _ _ h=>h) (fun _ _ h _=>h) (fun _ _ h _=>h) (hk.weaken fun _ _ _=>trivial) (fun _ _ h=>h) (fun _ _ h=>.inl h) (fun u hu _ b o hf hi=>?_) (fun b o hi=>?_) (fun _ u hu=>?_)).1
 ·subst hu; rw [aP]; exact ⟨h2,Nat.le_of_lt h1,fun h=>by omega⟩
 ·subst hu; exact absurd hp hkp
 ·subst hu; rw [Gh.jq] at hf; exact .inr (hF b o hf)
 ·exact absurd (hu.trans hv.symm) hne
 ·subst hu; rw [Gh.jq] at hf
  have:=lX (hR.zA b o hi); have:=hF b o hf; omega
 ·obtain ⟨v,hv⟩:=hR.zA b o hi
  exact ⟨v,(hk.qM ⟨v,hv⟩).trans hv⟩
 ·subst hu; rw [aP]; exact hch
theorem R.world (hR:R n σ g I a w) (hk:Keeps (fun _ _=>True) w w'):R n σ g I a w':=by
 have ev:fM σ.k g w I σ.k g w' I:=⟨fun _=>Nat.le_refl _,fun _=>Nat.le_refl _,fun u _ hl b o hf=>⟨.inl ⟨hl,hf⟩,hk.qM (sj hR hl hf)⟩,fun _ _=>⟨rfl,rfl⟩,
  fun b o h=>⟨h,hk.qM (hR.zA b o h)⟩,fun b o h=>⟨h,hk.qM (hR.x.awf b o (hR.x.da b o h))⟩⟩
 refine ⟨hR.size,hR.nd,fun t=>ev.ent (hR.slots t),fun u=>KC.keep ev hk (fun _ _ _ _=>trivial) rfl rfl (hR.uH u),hR.sep,hR.jm,fun b o hi=>?_,hR.x.step (hk.weaken fun _ _ _=>trivial) rfl (fun k h=>⟨fun _=>.inl ⟨h,rfl⟩,hR.x.wC k h⟩) (fun _ _ h=>.inl h)⟩
 obtain ⟨v,hv⟩:=hR.zA b o hi
 exact ⟨v,(hk.qM ⟨v,hv⟩).trans hv⟩
theorem su (w:World) (m:Nat):Keeps (fun _ _=>True) w { w with drawn:=m }:=⟨Nat.le_refl _,fun b x h=>⟨x,h,.refl _ _ _⟩,rfl,rfl,rfl⟩
def World.pushed (w:World) (o:Obj):World:={ w with heap:=w.heap.push o }
theorem pG (w:World) (o:Obj):Keeps (fun _ _=>True) w (World.pushed w o) :=
 ⟨by simp [World.pushed],fun b x h=>⟨x,by
  have hlt:=(Array.getElem?_eq_some_iff.1 h).1
  simp only [World.pushed,Array.getElem?_push_lt hlt]
  rw [<-h,Array.getElem?_eq_getElem hlt],.refl _ _ _⟩,rfl,rfl,rfl⟩
theorem tu (w:World) (c:Array Value) (el:TypeId) (fz:Nat×Nat):Block (World.pushed w (.cells c el fz)) w.heap.size c el fz:=by
 unfold Block World.pushed
 simp only [Array.getElem?_push_size]
theorem rA {P:Program} {el:TypeId} {c:Array Value} : (newRow el c).run P w = .ok ⟨w.heap.size,0,none⟩ (World.pushed w (.cells c el)):=by
 simp only [newRow,newObj]
 rfl
end
end Go.E

namespace Go.E
open Go
section
variable {n:Fr} {σ:S} {g:Gh} {I:aA} {a:Act} {w w':World}
theorem R.freeze (hR:R n σ g I a w) {key:Key} {es:List LT} {ms:List M} {rows:List (List T)} (hc:(σ.k key).ch = .row es ms rows) :
  R n (σ.bE key { σ.k key with ch:=.fz es rows }) g (fun b o=>I b o\/g.F key b o) a w /\
  fM σ.k g w I (σ.bE key { σ.k key with ch:=.fz es rows }).k g w (fun b o=>I b o\/g.F key b o):=by
 have ev:fM σ.k g w I (σ.bE key { σ.k key with ch:=.fz es rows }).k g w (fun b o=>I b o\/g.F key b o):=by
  refine ⟨fun u=>?_,fun u=>?_,fun u hcv hl b o hf=>?_,fun u hid=>?_,fun b o h=>⟨.inl h,rfl⟩,fun b o h=>⟨h,rfl⟩⟩
  ·by_cases hu:u=key
   ·subst hu; rw [aP]; exact Nat.le_refl _
   ·rw [aN _ _ hu]; exact Nat.le_refl _
  ·by_cases hu:u=key
   ·subst hu; rw [aP]; exact Nat.le_refl _
   ·rw [aN _ _ hu]; exact Nat.le_refl _
  ·by_cases hu:u=key
   ·subst hu; exact ⟨.inr (.inr hf),rfl⟩
   ·rw [aN _ _ hu]; exact ⟨.inl ⟨hl,hf⟩,rfl⟩
  ·by_cases hu:u=key
   ·subst hu; rw [aP,hc]; exact ⟨rfl,rfl⟩
   ·rw [aN _ _ hu]; exact ⟨rfl,rfl⟩
 refine ⟨⟨hR.size,hR.nd,fun t=>ev.ent (hR.slots t),fun u=>?_,fun u v hu hv huv=>?_,fun u hu=>?_,fun b o hi=>?_,hR.x.step (Keeps.refl _ _) rfl (fun u hu=>?_) (fun b o hb=>?_)⟩,ev⟩
 ·by_cases X8:u=key
  ·subst X8
   rw [aP]
   have:=hR.uH u
   rw [hc] at this
   exact aY.leaf this (fun _ _ h=>.inl h) (fun _ _ h=>.inr h)
  ·rw [aN _ _ X8]
   exact KC.keep ev (Keeps.refl (fun _ _=>True) w) (fun _ _ _ _=>trivial) rfl rfl (hR.uH u)
 ·have hu':u≠key:=by rintro rfl; rw [aP] at hu; exact hu
  have hv':v≠key:=by rintro rfl; rw [aP] at hv; exact hv
  rw [aN _ _ hu'] at hu
  rw [aN _ _ hv'] at hv
  exact hR.sep u v hu hv huv
 ·have hu':u≠key:=by rintro rfl; rw [aP] at hu; exact hu
  rw [aN _ _ hu'] at hu
  intro b o hf hi
  rcases hi with hi | hi
  ·exact hR.jm u hu b o hf hi
  ·exact hR.sep u key hu (by rw [hc]; trivial) hu' b o hf hi
 ·rcases hi with hi | hi
  ·exact hR.zA b o hi
  ·exact sj hR (by rw [hc]; trivial) hi
 ·have hu':u≠key:=by rintro rfl; rw [aP] at hu; exact hu
  rw [aN _ _ hu'] at hu
  exact ⟨fun _=>.inl ⟨hu,rfl⟩,hR.x.wC u hu⟩
 ·exact hb.imp id fun hf ha=>hR.x.wC key (by rw [hc]; trivial) b o hf ha
variable {cf:FuncId->List Arg->R3 fZ} {Q:S->Tr->Prop}
theorem amO {m:M} {ms:List M} (h : ∀ x,m ≠ .O x) (h':noO ms):noO (m::ms):=by
 intro y hy x
 rcases List.mem_cons.1 hy with rfl | hy
 ·exact h x
 ·exact h' y hy x
structure EG (n:Fr) (σ:S) (g:Gh) (I:aA) (Z:aA):Prop where
 live : ∀ u,Live (σ.k u).ch->aA.apart (g.F u) Z
 jm:aA.apart Z I
 wC:aA.apart Z n.A
theorem EG.none:EG n σ g I (fun _ _=>False):=⟨fun _ _ _ _ _ h=>h,fun _ _ h _=>h,fun _ _ h _=>h⟩
theorem EG.sub {Z Z':aA} (h:EG n σ g I Z) (hs : ∀ b o,Z' b o->Z b o):EG n σ g I Z' :=
 ⟨fun u hu b o h1 h2=>h.live u hu b o h1 (hs b o h2),fun b o h1 h2=>h.jm b o (hs b o h1) h2,fun b o h1 h2=>h.wC b o (hs b o h1) h2⟩
theorem EG.frz {Z:aA} (h:EG n σ g I Z) {key:Key} {es:List LT} {ms:List M} {rows:List (List T)} (hc:(σ.k key).ch = .row es ms rows):EG n (σ.bE key { σ.k key with ch:=.fz es rows }) g (fun b o=>I b o\/g.F key b o) Z:=by
 refine ⟨fun u hu=>?_,fun b o h1 h2=>?_,h.wC⟩
 ·by_cases X8:u=key
  ·subst X8; rw [aP] at hu; exact hu.elim
  ·rw [aN _ _ X8] at hu; exact h.live u hu
 ·rcases h2 with h2 | h2
  ·exact h.jm b o h1 h2
  ·exact h.live key (by rw [hc]; trivial) b o h2 h1
theorem R.gone (hR:R n σ g I a w) (k:Key):R n (σ.bE k ⟨.gone,(σ.k k).bM+1,(σ.k k).cv+1⟩) g I a w /\
  fM σ.k g w I (σ.bE k ⟨.gone,(σ.k k).bM+1,(σ.k k).cv+1⟩).k g w I:=by
 have nl : ¬ Live ((σ.bE k ⟨.gone,(σ.k k).bM+1,(σ.k k).cv+1⟩).k k).ch:=by rw [aP]; exact id
 refine hR.touch (σ':=σ.bE k ⟨.gone,(σ.k k).bM+1,(σ.k k).cv+1⟩) (g':=g) (I':=I) (w':=w) (fun u=>u=k) (fun _ _=>False) rfl rfl (fun u hu=>⟨aN _ _ hu,rfl,rfl⟩) (fun u hu=>?_) (fun u hu _ hl=>?_) (fun u hu hl=>?_) (fun u v hu _ hl=>?_)
  (fun _ _ _ _ _ _ h=>h) (fun _ _ h _=>h) (fun _ _ h _=>h) (Keeps.refl _ _) (fun _ _ h=>h) (fun _ _ h=>.inl h) (fun u hu hl=>?_) hR.zA (fun _ u hu=>?_)
 ·subst hu; rw [aP]; exact ⟨Nat.lt_succ_self _,Nat.le_succ _,fun h=>by have h:(σ.k u).bM+1=(σ.k u).bM:=h; omega⟩
 ·subst hu; exact (nl hl).elim
 ·subst hu; exact (nl hl).elim
 ·subst hu; exact (nl hl).elim
 ·subst hu; exact (nl hl).elim
 ·subst hu; rw [aP]; trivial
theorem EG.gone (hR:R n σ g I a w) {Z:aA} (h:EG n σ g I Z) {key:Key} (hl:Live (σ.k key).ch):EG n (σ.bE key ⟨.gone,(σ.k key).bM+1,(σ.k key).cv+1⟩) g I (fun b o=>Z b o\/g.F key b o):=by
 refine ⟨fun u hu=>?_,fun b o h1 h2=>?_,fun b o h1 h2=>?_⟩
 ·by_cases X8:u=key
  ·subst X8; rw [aP] at hu; exact hu.elim
  ·rw [aN _ _ X8] at hu
   exact fun b o h1 h2=>h2.elim (h.live u hu b o h1) (hR.sep u key hu hl X8 b o h1)
 ·exact h1.elim (fun h1=>h.jm b o h1 h2) fun h1=>hR.jm key hl b o h1 h2
 ·exact h1.elim (fun h1=>h.wC b o h1 h2) fun h1=>hR.x.wC key hl b o h1 h2
theorem J8 : ∀ {es:List LT} {ms:List M} {ls:List Leaf} {vs:List Value} {σ:S} {I Z:aA} {k:List T->Prog} {tr:Tr},R n σ g I a w->EG n σ g I Z->bS σ.k g w I ls vs ->
  (wX es ms ls k).wp cf σ tr Q->∃ σ' I' cO ds bs,R n σ' g I' a w/\fM σ.k g w I σ'.k g w I'/\ay w I' es ms vs ds bs/\eZ w bs/\EG n σ' g I' (fun b o=>Z b o\/FB w bs b o)/\aA.apart Z (FB w bs)/\σ'.s=σ.s /\
   (k ds).wp cf σ' cO Q
 | [],ms,[],[],σ,I,Z,k,tr,hR,hZ,hl,h=>⟨σ,I,tr,[],[],hR,fM.refl,by unfold ay; exact ⟨rfl,rfl,rfl⟩,by unfold eZ; trivial,hZ.sub (fun b o h=>h.elim id fun h=>(nomatch h.1)),(fun b o _ h=>(nomatch h.1)),rfl,h⟩
 | [],_,[],_::_,σ,I,Z,k,tr,hR,hZ,hl,h=>hl.elim
 | [],_,_::_,vs,σ,I,Z,k,tr,hR,hZ,hl,h=>h.elim
 | _::_,_,[],vs,σ,I,Z,k,tr,hR,hZ,hl,h=>h.elim
 | e::es,_,l::ls,[],σ,I,Z,k,tr,hR,hZ,hl,h=>hl.elim
 | e::es,ms,l::ls,v::vs,σ,I,Z,k,tr,hR,hZ,hl,h=>by
  obtain ⟨st,lt,d⟩:=l
  have step : ∀ (d:T) (b1:List Nat) (σ₁:S) (I₁:aA) (akv:Tr),R n σ₁ g I₁ a w->fM σ.k g w I σ₁.k g w I₁->σ₁.s=σ.s->bQ w I₁ e (ms.headD .F) v d b1->eZ w b1->EG n σ₁ g I₁ (fun b o=>Z b o\/FB w b1 b o)->aA.apart Z (FB w b1) ->
    (wX es ms.tail ls fun ds=>k (d::ds)).wp cf σ₁ akv Q ->
    ∃ σ' I' cO ds bs,R n σ' g I' a w/\fM σ.k g w I σ'.k g w I'/\ay w I' (e::es) ms (v::vs) ds bs/\eZ w bs/\EG n σ' g I' (fun b o=>Z b o\/FB w bs b o)/\aA.apart Z (FB w bs)/\σ'.s=σ.s/\(k ds).wp cf σ' cO Q:=by
   intro d b1 σ₁ I₁ akv amP ev hs hc hn hz hza h
   obtain ⟨σ',I',cO,ds,b2,h1,h2,h3,h4,h5,h6,h7,h8⟩:=J8 amP hz (ev.lfs hl.2) h
   refine ⟨σ',I',cO,d::ds,b1++b2,h1,ev.trans h2,?_,jZ.2 ⟨hn,h4,wE.1 fun b o h9 h10=>h6 b o (.inr h9) h10⟩,h5.sub fun b o h9=>?_,fun b o h9 h10=>?_,h7.trans hs,h8⟩
   ·unfold ay
    exact ⟨v,vs,d,ds,b1,b2,rfl,rfl,rfl,bQ.same (fun b o hb=>(h2.jm b o hb).1) hc,h3⟩
   ·rw [mH] at h9
    rcases h9 with h9 | h9 | h9
    ·exact .inl (.inl h9)
    ·exact .inl (.inr h9)
    ·exact .inr h9
   ·rcases mH.1 h10 with h10 | h10
    ·exact hza b o h9 h10
    ·exact h6 b o (.inl h9) h10
  have hzn : ∀ {σ₁:S} {I₁:aA},EG n σ₁ g I₁ Z->EG n σ₁ g I₁ (fun b o=>Z b o\/FB w [] b o):=fun hz=>hz.sub fun b o h=>h.elim id fun h=>(nomatch h.1)
  have ahl:aA.apart Z (FB w []):=fun b o _ h=>(nomatch h.1)
  obtain ⟨hs,hl1⟩:=hl.1
  unfold wX at h
  simp only at h hl1
  split at h
  ·rename_i s s' _ _ _
   split at h
   ·rename_i hss
    subst hss
    obtain ⟨s',e1,hv⟩:=hl1
    cases e1
    exact step d [] σ I tr hR fM.refl rfl (by unfold bQ; exact ⟨hv,rfl⟩) trivial (hzn hZ) ahl h
   ·exact h.elim
  ·obtain ⟨-,rfl,-⟩:=hl1
   rename_i es'
   have hnil:aJ w I (.sl es') (.slice none 0 0) (.l []):=by unfold aJ; exact ⟨none,0,[],rfl,rfl,Nat.le_refl _,Nat.zero_le _,.inl rfl⟩
   obtain ⟨hne,h⟩:=h
   refine step (.l []) [] σ I tr hR fM.refl rfl ?_ trivial (hzn hZ) ahl h
   cases hm:ms.headD .F with
   | F=>unfold bQ; exact ⟨hnil,rfl⟩
   | O x =>
    rw [hm] at hne
    unfold bQ
    exact ⟨[],rfl,by intro e; subst e; simp at hne,Nat.zero_le _,.inl ⟨⟨_,rfl⟩,rfl,rfl⟩⟩
  ·rename_i es'
   cases hm:ms.headD .F with
   | O x=>rw [hm] at h; exact h.elim
   | F =>
    rw [hm] at h
    simp only at h
    cases hb:LT.beq (.sl es') lt with
    | false=>rw [hb] at h; exact h.elim
    | true =>
     rw [hb] at h
     have hlt:=LT.beq_eq hb
     subst hlt
     obtain ⟨-,-,h1⟩:=hl1
     have h2:=h1 (Nf _)
     refine step d [] σ I tr hR fM.refl rfl ?_ trivial (hzn hZ) ahl h
     rw [hm]; unfold bQ
     exact ⟨aJ.mono (fun b o hb=>hb.elim id (fun ⟨d,hd,_⟩=>(nomatch hd))) (fun _ _ _=>rfl) _ h2,rfl⟩
  ·rename_i es' key m
   obtain ⟨-,h1,h2⟩:=hl1
   obtain ⟨h3,h⟩:=h
   have hv:=h2 (Nat.eq_of_beq_eq_true h3)
   subst hv
   have hch:=hR.uH key
   split at h
   ·rename_i es'' rows e1
    rw [e1] at hch
    cases hm:ms.headD .F with
    | O x=>rw [hm] at h; exact h.elim
    | F =>
     rw [hm] at h
     simp only at h
     cases hb:LT.dO es' es'' with
     | false=>rw [hb] at h; exact h.elim
     | true =>
      rw [hb] at h
      have:=LT.bL hb
      subst this
      refine step (.l rows) [] σ I _ hR fM.refl rfl ?_ trivial (hzn hZ) ahl h
      rw [hm]; unfold bQ
      exact ⟨hch,rfl⟩
   ·rename_i es'' ak7 rows e1
    rw [e1] at hch
    cases hm:ms.headD .F with
    | F =>
     rw [hm] at h
     simp only at h
     cases hb:LT.dO es' es'' with
     | false=>rw [hb] at h; exact h.elim
     | true =>
      rw [hb] at h
      have:=LT.bL hb
      subst this
      obtain ⟨h4,h5⟩:=hR.freeze e1
      refine step (.l rows) [] _ _ _ h4 h5 rfl ?_ trivial (hzn (hZ.frz e1)) ahl h
      rw [hm]; unfold bQ
      exact ⟨aY.leaf hch (fun _ _ h=>.inl h) (fun _ _ h=>.inr h),rfl⟩
    | O ms' =>
     rw [hm] at h
     simp only at h
     cases hb:(LT.dO es' es''&&M.dO ms' ak7) with
     | false=>rw [hb] at h; exact h.elim
     | true =>
      rw [hb] at h
      simp only [Bool.and_eq_true] at hb
      have:=LT.bL hb.1
      subst this
      have:=M.bL hb.2
      subst this
      obtain ⟨h4,h5⟩:=hR.gone key
      obtain ⟨bs,hn,hc,hF⟩:=hch
      have hlive:Live (σ.k key).ch:=by rw [e1]; trivial
      refine step (.l rows) bs _ _ _ h4 h5 rfl (by rw [hm]; exact hc) hn ((hZ.gone hR hlive).sub fun b o h=>h.imp id fun h=>(hF b o).2 h) (fun b o h9 h10=>hZ.live key hlive b o ((hF b o).2 h10) h9) h
   ·exact h.elim
  ·exact h.elim
end
end Go.E

namespace Go.E
open Go
section
variable {w:World} {I S A:aA}
def dn (w:World) (I:aA) (es:List LT):List (List T)->List Value->Prop
 | [],_=>True
 | r::rs,cs=>aU w I es (cs.take es.length) r/\dn w I es rs (cs.drop es.length)
theorem dn.row {b:Nat} {c:Array Value} {el:TypeId} {fz:Nat×Nat} {es:List LT} (hb:Block w b c el fz) : ∀ (rows:List (List T)) (k:Nat),dn w I es rows (c.toList.drop k)->k+rows.length * es.length<=c.size ->
  ∀ i (hi:i<rows.length),bW w (fun _ _=>True) I es b (k+i * es.length) rows[i]
 | [],_,_,_,i,hi=>by simp at hi
 | r::rs,k,h,hn,i,hi=>by
  have hn':k+es.length+rs.length * es.length<=c.size:=by simp only [List.length_cons,Nat.add_mul] at hn; omega
  cases i with
  | zero =>
   refine bW.aeE (vs:=(c.toList.drop k).take es.length) (by simpa using h.1) (bJ.of_block hb _ _ fun j hj=>?_)
   simp only [List.length_take,List.length_drop,Array.length_toList] at hj
   simp only [List.getElem_take,List.getElem_drop,Array.getElem_toList,Nat.zero_mul,Nat.add_zero]
   exact Array.getElem?_eq_getElem (by omega)
  | succ i =>
   have h2:=h.2
   rw [List.drop_drop] at h2
   have:=dn.row hb rs (k+es.length) h2 hn' i (by simpa using hi)
   rw [show k+(i+1) * es.length=k+es.length+i * es.length from by rw [Nat.add_mul]; omega]
   simpa using this
theorem dn.mono {w w':World} {I I':aA} (h : ∀ b o,I b o->I' b o/\cellAt w' b o=cellAt w b o) {es:List LT} : ∀ {rows:List (List T)} {cs:List Value},dn w I es rows cs->dn w' I' es rows cs
 | [],_,_=>trivial
 | _::_,_,hh=>⟨hh.1.mono h,dn.mono h hh.2⟩
theorem dn.toM {es:List LT} {ms:List M} (hm:noO ms) : ∀ {rows:List (List T)} {cs:List Value},dn w I es rows cs->aM (fun vs ds bs=>ay w I es ms vs ds bs) es.length rows cs []
 | [],cs,_=>rfl
 | r::rs,cs,h=>⟨[],[],rfl,ay.of_flat hm h.1,dn.toM hm h.2⟩
theorem aM.toV {es:List LT} {ms:List M} {S:aA} (hs : ∀ b o,I b o->S b o) : ∀ {rows:List (List T)} {cs:List Value} {bs:List Nat},(∀ b o,FB w bs b o->S b o)->aM (fun vs ds bs=>ay w I es ms vs ds bs) es.length rows cs bs->dn w S es rows cs
 | [],cs,bs,_,_=>trivial
 | r::rs,cs,bs,hb,h=>by
  obtain ⟨b1,b2,rfl,h1,h2⟩:=h
  exact ⟨ay.leaves hs es (fun b o h=>hb b o (mH.2 (.inl h))) h1,aM.toV hs (fun b o h=>hb b o (mH.2 (.inr h))) h2⟩
theorem dn.app {es:List LT} : ∀ {rows rows':List (List T)} {cs cs':List Value},dn w I es rows cs->cs.length=rows.length * es.length->dn w I es rows' cs'->dn w I es (rows++rows') (cs++cs')
 | [],rows',cs,cs',h,hn,h'=>by
  have:cs=[]:=List.length_eq_zero_iff.1 (by simpa using hn)
  subst this; exact h'
 | r::rs,rows',cs,cs',h,hn,h'=>by
  simp only [List.length_cons,Nat.add_mul,Nat.one_mul] at hn
  have hle:es.length<=cs.length:=by omega
  refine ⟨?_,?_⟩
  ·rw [List.take_append_of_le_length hle]; exact h.1
  ·rw [List.drop_append_of_le_length hle]
   exact dn.app h.2 (by rw [List.length_drop]; omega) h'
theorem dn.tail {es:List LT} : ∀ {rows:List (List T)} {cs cs':List Value},dn w I es rows cs->dn w I es rows (cs++cs')
 | [],cs,cs',h=>trivial
 | r::rs,cs,cs',h=>by
  have hlen:=h.1.len.1
  have hle:es.length<=cs.length:=by rw [List.length_take] at hlen; omega
  refine ⟨?_,?_⟩
  ·rw [List.take_append_of_le_length hle]; exact h.1
  ·rw [List.drop_append_of_le_length hle]; exact dn.tail h.2
end
section
variable {Γ:Ctx} {P:Program} {cf:FuncId->List Arg->R3 fZ}
variable {n:Fr} {σ:S} {g:Gh} {I:aA} {a:Act} {w w':World}
variable {o:Oper} {f:FuncId} {tr:Tr} {Q:S->Tr->Prop} {K:Act->World->Prop} {Qm:Exit->Act->World->Prop}
theorem aeH {d0:Nat} {c:Array Value} {el:TypeId} {ls:List Leaf} (hdst:o.dst=some d0) (hd:cZ n.np n.nt o=true) (hR:R n σ g I a w) (hK:Post P n I w Q K)
  (hrun:(execOp a.eval o).run P w = .ok (.value (.pointer (some ⟨w.heap.size,0,none⟩))) (World.pushed w (.cells c el))) (hl:bS σ.k g w I ls c.toList)
  (h:(ag2 d0 ls).wp cf σ tr Q):Goal P o a w K Qm:=by
 refine zB hrun ?_
 rw [hdst]
 obtain ⟨hdn,hkp⟩:=Ib hd hdst
 let F:aA:=fun b o'=>b=w.heap.size/\o'<c.size
 have hk:=pG w (.cells c el)
 have ev:=ajA hR [d0+2000000] ⟨.box ls,(σ.k [d0+2000000]).bM+1,(σ.k [d0+2000000]).cv+1⟩ (.pointer (some ⟨w.heap.size,0,none⟩)) F (by simp) (by simp) hk
 have hlen:=hl.len
 have ahm:mF (σ.bE [d0+2000000] ⟨.box ls,(σ.k [d0+2000000]).bM+1,(σ.k [d0+2000000]).cv+1⟩).k (g.set [d0+2000000] (.pointer (some ⟨w.heap.size,0,none⟩)) F) (World.pushed w (.cells c el)) I ls (.pointer (some ⟨w.heap.size,0,none⟩)) F:=by
  refine ⟨w.heap.size,0,c,el,(0,0),rfl,tu w c el (0,0),by simp at hlen; omega,fun j hj=>by omega,fun b' o'=>?_,?_⟩
  ·simp only [F,Nat.zero_le,true_and,Nat.zero_add]
   simp at hlen
   rw [hlen]
  ·rw [List.drop_zero,<-hlen,List.take_length]
   exact ev.lfs hl
 have hR':=hR.ahk [d0+2000000] ⟨.box ls,(σ.k [d0+2000000]).bM+1,(σ.k [d0+2000000]).cv+1⟩ (.pointer (some ⟨w.heap.size,0,none⟩)) F (by simp) (by simp) hk (hkp n.big _) (fun b o' hf=>by rw [hf.1]; exact Nat.le_refl _)
  (by simp only [KC,Gh.nO,Gh.jq]; exact ahm)
 refine hK _ _ _ I _ _ h (hR'.put hdn (e:=.ptr [d0+2000000] ((σ.k [d0+2000000]).bM+1) 0 0) ⟨⟨fun _ h=>(nomatch h),fun _ h=>(nomatch h)⟩,?_,fun _=>⟨w.heap.size,0,rfl,?_⟩⟩) (fun _ _ h=>h) (hk.weaken fun _ _ _=>trivial)
 ·rw [aP]; exact Nat.le_refl _
 ·rw [Gh.nO]; rfl
theorem Nj {d0:Nat} {c:Array Value} {el:TypeId} {fz:Nat×Nat} {es:List LT} {ms:List M} {rows:List (List T)} {b cap:Nat} {bs:List Nat} {p:Prog} {Q:S->Tr->Prop} (hdst:o.dst=some d0) (hd:cZ n.np n.nt o=true) (hR:R n σ g I a w) (hK:Post P n I w Q K)
  (hk:Keeps (fun _ _=>True) w w') (hb:w.heap.size<=b) (hblk:Block w' b c el fz) (hfz : ∀ o',o'<=c.size->¬ (fz.1<=o'/\o'<fz.2))
  (hrun:(execOp a.eval o).run P w = .ok (.value (.slice (some ⟨b,0,none⟩) rows.length cap)) w') (hes:es≠[]) (h1:rows.length<=aK) (h2:rows.length<=cap)
  (h4:c.size=cap * es.length) (hn:eZ w bs) (hz:EG n σ g I (FB w bs)) (hrows:aM (fun vs ds bs=>ay w I es ms vs ds bs) es.length rows c.toList bs) (h:(MP d0 es ms rows).wp cf σ tr Q):Goal P o a w K Qm:=by
 refine zB hrun ?_
 rw [hdst]
 obtain ⟨hdn,hkp⟩:=Ib hd hdst
 have hbs : ∀ x∈bs,∃ c el fz,Block w x c el fz:=nY (I:=I) (fun vs ds bs h=>ay.blocks es h) _ hrows
 have hlt : ∀ x∈bs,x<w.heap.size:=fun x hx=>by
  obtain ⟨c,el,fz,h⟩:=hbs x hx
  exact (Array.getElem?_eq_some_iff.1 h).1
 let F:aA:=fun b' o'=>(b'=b/\o'<c.size)\/FB w bs b' o'
 let e:KE:=⟨.row es ms rows,(σ.k [d0+2000000]).bM+1,(σ.k [d0+2000000]).cv+1⟩
 have hiI : ∀ b o,I b o->I b o/\cellAt w' b o=cellAt w b o:=fun b o hi=>⟨hi,hk.qM (hR.zA b o hi)⟩
 have hrow:aY w' I es ms rows (.slice (some ⟨b,0,none⟩) rows.length cap) F:=by
  refine aY.mk' hes h1 h2 hblk h4 hfz (aM.imp (fun vs ds b' _ h=>ay.keep hk hiI es (fun _ _ _=>trivial) h) hrows) ⟨fun hm=>?_,qj hk hbs hn⟩ (fun b' o'=>?_)
  ·have:=hlt b hm; omega
  ·rw [Ic hk hbs]
 obtain ⟨hR',-⟩:=hR.touch (σ':=σ.bE [d0+2000000] e) (g':=g.set [d0+2000000] (.slice (some ⟨b,0,none⟩) rows.length cap) F) (I':=I) (w':=w') (fun u=>u=[d0+2000000]) (FB w bs) rfl rfl
  (fun u hu=>⟨aN _ _ hu,Gh.xq _ _ _ hu,Gh.tq _ _ _ hu⟩) (fun u hu=>by subst hu; rw [aP]; exact ⟨Nat.lt_succ_self _,Nat.le_succ _,fun h=>by have h:(σ.k [d0+2000000]).bM+1=(σ.k [d0+2000000]).bM:=h; omega⟩)
  (fun u hu hp=>by subst hu; exact absurd hp (hkp n.big _)) (fun u hu _ b' o' hf=>by subst hu; rw [Gh.jq] at hf; exact hf.elim (fun h=>.inr (by rw [h.1]; exact hb)) .inl)
  (fun u v hu hv _ _ hne=>absurd (hu.trans hv.symm) hne) (fun u _ hl=>hz.live u hl) hz.jm hz.wC (hk.weaken fun _ _ _=>trivial) (fun _ _ h=>h) (fun _ _ h=>.inl h)
  (fun u hu _ b' o' hf hi=>by
   subst hu; rw [Gh.jq] at hf
   rcases hf with hf | hf
   ·have:=lX (hR.zA b' o' hi); rw [hf.1] at this; omega
   ·exact hz.jm b' o' hf hi)
  (fun b' o' hi=>by obtain ⟨v,hv⟩:=hR.zA b' o' hi; exact ⟨v,(hk.qM ⟨v,hv⟩).trans hv⟩)
  (fun _ u hu=>by subst hu; rw [aP]; simp only [e,KC,Gh.nO,Gh.jq]; exact hrow)
 refine hK _ _ _ I _ _ h (hR'.put hdn (e:=.one ⟨.al [d0+2000000] ((σ.k [d0+2000000]).bM+1),.sl es,.l []⟩) ⟨⟨fun _ h=>(nomatch h),fun _ h=>(nomatch h)⟩,trivial,?_,fun _=>?_⟩) (fun _ _ h=>h) (hk.weaken fun _ _ _=>trivial)
 ·rw [aP]; exact Nat.le_refl _
 ·rw [Gh.nO]
theorem aoh {d0:Nat} {c:Array Value} {el:TypeId} {fz:Nat×Nat} {es:List LT} {ms:List M} {rows:List (List T)} {b cap:Nat} (hdst:o.dst=some d0) (hd:cZ n.np n.nt o=true) (hR:R n σ g I a w) (hK:Post P n I w Q K)
  (hk:Keeps (fun _ _=>True) w w') (hb:w.heap.size<=b) (hblk:Block w' b c el fz) (hfz : ∀ o',o'<=c.size->¬ (fz.1<=o'/\o'<fz.2))
  (hrun:(execOp a.eval o).run P w = .ok (.value (.slice (some ⟨b,0,none⟩) rows.length cap)) w') (hes:es≠[]) (h1:rows.length<=aK) (h2:rows.length<=cap) (h3:True)
  (h4:c.size=cap * es.length) (hm:noO ms) (hrows:dn w I es rows c.toList) (h:(MP d0 es ms rows).wp cf σ tr Q):Goal P o a w K Qm :=
 Nj (cf:=cf) (p:=.ret) hdst hd hR hK hk hb hblk hfz hrun hes h1 h2 h4 (bs:=[]) trivial (EG.none.sub fun b o h=>(nomatch h.1)) (hrows.toM hm) h
theorem Ig {κ:Key->KE} : ∀ {aR:List LT} {vs:List Value},EM aR vs->bS κ g w I (aR.map MO) vs
 | [],[],_=>trivial
 | lt::aR,v::vs,h=>by
  refine ⟨?_,Ig h.2⟩
  have h1:=h.1
  cases lt with
  | sl es=>cases h1; exact ⟨⟨fun _ h=>(nomatch h),fun _ h=>(nomatch h)⟩,trivial,rfl,rfl⟩
  | sc s =>
   cases s with
   | int k=>cases h1; exact ⟨⟨fun _ h=>(nomatch h),fun _ h=>(nomatch h)⟩,.int k,rfl,0,rfl,rfl,Nb k⟩
   | bool=>cases h1; exact ⟨⟨fun _ h=>(nomatch h),fun _ h=>(nomatch h)⟩,.bool,rfl,false,rfl,rfl⟩
   | str=>cases h1; exact ⟨⟨fun _ h=>(nomatch h),fun _ h=>(nomatch h)⟩,.str,rfl,.empty,rfl,rfl,by decide⟩
   | any=>exact ⟨h1,trivial⟩
 | [],_::_,h=>h.elim
 | _::_,[],h=>h.elim
theorem Ih : ∀ {aR:List LT} {vs:List Value},EM aR vs->aR.all (fun l=>match l with | .sc .any=>false | _=>true)=true->aU w I aR vs (aR.map GA)
 | [],[],_,_=>trivial
 | lt::aR,v::vs,h,ha=>by
  simp only [List.all_cons,Bool.and_eq_true] at ha
  refine ⟨?_,Ih h.2 ha.2⟩
  have h1:=h.1
  unfold aJ
  cases lt with
  | sl es=>cases h1; exact ⟨none,0,[],rfl,rfl,Nat.le_refl _,Nat.zero_le _,.inl rfl⟩
  | sc s =>
   cases s with
   | int k=>cases h1; exact ⟨0,rfl,rfl,Nb k⟩
   | bool=>cases h1; exact ⟨false,rfl,rfl⟩
   | str=>cases h1; exact ⟨.empty,rfl,rfl,by decide⟩
   | any=>simp at ha
 | [],_::_,h,_=>h.elim
 | _::_,[],h,_=>h.elim
theorem qN {t:TypeId} {ti:TI} (h:uT Γ P t ti) : ∃ z,(zeroValue t).run P w = .ok z w/\EM ti.aR z.cells.toList:=by
 obtain ⟨i,h1,-,-,-,-,z,hz,h2⟩:=h.info
 exact ⟨z,by simp [zeroValue,typeInfo,h1,hz,go_sem],h2⟩
theorem Nk {κ:Key->KE} {e:eU} {v:Value} {ls:List Leaf} (he:jw κ g w I e v) (h:DY e=some ls):bS κ g w I ls v.cells.toList:=by
 cases e with
 | one l =>
  cases h
  have h1:Hr κ g w I l v:=he
  rw [h1.1.cells]
  exact ⟨h1,trivial⟩
 | agg ls' =>
  cases h
  obtain ⟨cs,rfl,h1⟩:=he
  exact h1
 | _=>cases h
end
end Go.E

