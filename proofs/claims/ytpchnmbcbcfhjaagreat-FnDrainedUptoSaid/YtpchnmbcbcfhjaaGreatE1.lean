/- A part of the proof: texts ECore, EMin, ERel, EBase, EOps1, EOps2, EOps3, EOps4, EOwn, EOps5, EOps6, EOps7, EOps8, EMem, EOps9, EOps10: see the last part's opening words. -/
import Derived.Orders
import Derived.Tactics
import Derived.Laws.StructEq
import Derived.Laws.BytesString
set_option linter.unusedVariables false
set_option linter.unusedSimpArgs false
set_option linter.unnecessarySimpa false
namespace Go.E
inductive ST where
 | int (k:IntKind) | bool | str | any
 deriving DecidableEq,Repr,Inhabited
inductive LT where
 | sc (s:ST) | sl (es:List LT)
 deriving Repr,Inhabited
inductive T where
 | i (n:Int) | b (x:Bool) | s (x:ByteArray) | l (rows:List (List T)) | x (v:Value)
 deriving Inhabited
def T.int:T->Int | .i n=>n | _=>0
def T.bool:T->Bool | .b y=>y | _=>false
def T.str:T->ByteArray | .s y=>y | _=>.empty
def T.rows:T->List (List T) | .l r=>r | _=>[]
mutual
def LT.beq:LT->LT->Bool
 | .sc a,.sc b=>decide (a=b)
 | .sl a,.sl b=>LT.d9 a b
 | _,_=>false
def LT.d9:List LT->List LT->Bool
 | [],[]=>true
 | a::as,b::bs=>LT.beq a b&&LT.d9 as bs
 | _,_=>false
end
abbrev Key:=List Nat
def dM:Key->Key->Bool
 | [],[]=>true
 | a::as,b::bs=>Nat.beq a b&&dM as bs
 | _,_=>false
def sD:Key:=[4000000]
inductive M where
 | F | O (ms:List M)
 deriving Inhabited,Repr
mutual
def M.beq:M->M->Bool
 | .F,.F=>true
 | .O a,.O b=>M.d9 a b
 | _,_=>false
def M.d9:List M->List M->Bool
 | [],[]=>true
 | a::az,b::bs=>M.beq a b&&M.d9 az bs
 | _,_=>false
end
mutual
def M.MK:M->M->Bool
 | _,.F=>true
 | .O a,.O b=>M.uh a b
 | .F,.O _=>false
def M.uh:List M->List M->Bool
 | [],[]=>true
 | a::az,b::bs=>M.MK a b&&M.uh az bs
 | _,_=>false
end
abbrev BG:=Key×Nat
inductive St where
 | sc | nl | sn (deps:List BG) | sb (k:Key) (n cv r off:Nat) | al (k:Key) (n:Nat) | dead
 deriving Inhabited,Repr
structure Leaf where
 st:St
 lt:LT
 d:T
 deriving Inhabited
inductive fA where
 | one (l:Leaf) | agg (ls:List Leaf) | ML (es:List fA)
 | ptr (k:Key) (n i off:Nat)
 | rp (deps:List BG) (aP:List LT) (row:List T)
 | fn (f:FuncId) (caps:List fA)
 | und | junk
 deriving Inhabited
inductive Ch where
 | box (ls:List Leaf) | row (es:List LT) (ms:List M) (rows:List (List T)) | fz (es:List LT) (rows:List (List T)) | gone
 | Jk (m j:Nat) (ls:List Leaf)
 | hol (es:List LT) (ms:List M) (rows:List (List T)) (r j:Nat)
 deriving Inhabited
structure KE where
 ch:Ch
 bO:Nat
 cv:Nat
 deriving Inhabited
structure S where
 s:Nat->fA
 k:Key->KE
inductive R3 (α:Type) where
 | ok (a:α) | out | bad
 deriving Inhabited
inductive AL where
 | sc (s:ST) (d:T) | fz (es:List LT) (rows:List (List T)) | own (es:List LT) (ms:List M) (rows:List (List T)) | nl (es:List LT)
 | dz (es:List LT) (rows:List (List T))
 deriving Inhabited
inductive Arg where
 | one (l:AL) | agg (ls:List AL)
 | BH (aP:List LT) (row:List T)
 | bx (ls:List AL)
 | fn (f:FuncId) (caps:List Arg)
 deriving Inhabited
inductive RL where
 | sc (s:ST) (d:T) | fz (es:List LT) (rows:List (List T)) | own (k:Key) (es:List LT) (ms:List M) (rows:List (List T)) | nl (es:List LT)
 | par (i j:Nat) | dz (es:List LT) (rows:List (List T))
 deriving Inhabited
inductive RE where
 | one (l:RL) | agg (ls:List RL)
 | bx (k:Key) (ls:List RL)
 | none
 deriving Inhabited
structure gu where
 rs:List RE
 owns:List (List (Option (List LT×List M×List (List T))))
 bxs:List (Option (List RL))
 deriving Inhabited
inductive Prog where
 | ret | fail | out
 | gK (c:Bool) (p:Prog)
 | lim (c:Bool) (p:Prog)
 | br (c:Bool) (p q:Prog)
 | BI (t:Nat) (k:fA->Prog)
 | kV (t:Nat) (e:fA) (p:Prog)
 | fG (k:Key) (c:KE->Prog)
 | bF (k:Key) (e:KE) (p:Prog)
 | call (f:FuncId) (args:List Arg) (k:gu->Prog)
structure Tr where
 rs:List Nat:=[]
 ws:List Nat:=[]
 rk:List Key:=[]
 wk:List Key:=[]
 deriving Inhabited
def S.kV (σ:S) (t:Nat) (e:fA):S:={ σ with s:=fun u=>cond (Nat.beq u t) e (σ.s u) }
def S.bF (σ:S) (k:Key) (e:KE):S:={ σ with k:=fun u=>cond (dM u k) e (σ.k u) }
def R3.bind {α β:Type} (r:R3 α) (k:α->R3 β):R3 β:=match r with | .ok a=>k a | _=>.bad
variable (cf:FuncId->List Arg->R3 gu)
def Prog.run {α:Type} : Prog->S->Tr->(S->Tr->R3 α)->R3 α
 | .ret,σ,tr,K=>K σ tr
 | .fail,_,_,_=>.bad
 | .out,_,_,_=>.bad
 | .gK c p,σ,tr,K=>cond c (p.run σ tr K) .bad
 | .lim _ p,σ,tr,K=>p.run σ tr K
 | .br c p q,σ,tr,K=>cond c (p.run σ tr K) (q.run σ tr K)
 | .BI t k,σ,tr,K=>(k (σ.s t)).run σ { tr with rs:=t::tr.rs } K
 | .kV t e p,σ,tr,K=>p.run (σ.kV t e) { tr with ws:=t::tr.ws } K
 | .fG k c,σ,tr,K=>(c (σ.k k)).run σ { tr with rk:=k::tr.rk } K
 | .bF k e p,σ,tr,K=>p.run (σ.bF k e) { tr with wk:=k::tr.wk } K
 | .call f args k,σ,tr,K=>(cf f args).bind fun r=>(k r).run σ tr K
inductive TK where
 | sc (s:ST) | slice (elem:TypeId) | struct (fs:List (Nat×TypeId)) | array (n:Nat) (elem:TypeId) | ptr (elem:TypeId) | other
 deriving Inhabited
structure TI where
 kind:TK
 aP:List LT
 bytes:Nat
 flat:Bool
 deriving Inhabited
inductive PM where
 | R | F | O (ms:List M)
 deriving Inhabited,Repr
structure Sig where
 Y5:List (List PM)
 deriving Inhabited
structure Ctx where
 ty:TypeId->Option TI
 fn:FuncId->Option Func
 sig:FuncId->Sig
 own:FuncId->Nat->Bool
 ms:FuncId->Nat->List M
 cut:FuncId->Nat->Nat
 cast:FuncId->Nat->List M
 box:FuncId->Nat->List M
 rg:FuncId->Nat->List (Nat×Nat)
 ret:FuncId->Bool
 can:FuncId->Nat->List M
def Dw:LT->T
 | .sc (.int _)=>.i 0 | .sc .bool=>.b false | .sc .str=>.s .empty | .sc .any=>.x .nilIface | .sl _=>.l []
def GI:LT->Leaf
 | .sl es=>⟨.nl,.sl es,.l []⟩
 | .sc .any=>⟨.dead,.sc .any,.l []⟩
 | lt=>⟨.sc,lt,Dw lt⟩
def BJ:Value->Option Leaf
 | .bool b=>some ⟨.sc,.sc .bool,.b b⟩
 | .int k n=>if k.min<=n/\n<=k.max then some ⟨.sc,.sc (.int k),.i n⟩ else none
 | .string s=>if s.size<9223372036854775808 then some ⟨.sc,.sc .str,.s s⟩ else none
 | .slice none 0 0=>some ⟨.nl,.sl [],.l []⟩
 | _=>none
def dflt:T:=.i 0
def XJ (deps:List BG) (lt:LT) (d:T):Leaf :=
 match lt with
 | .sl _=>⟨.sn deps,lt,d⟩
 | _=>⟨.sc,lt,d⟩
def xJ:TK->Bool
 | .struct _ | .array _ _=>true
 | _=>false
def Dx (agg:Bool) (ls:List Leaf):fA :=
 cond agg (.agg ls) (match ls with | [l]=>.one l | _=>.junk)
def Ay:fA->Option (List Leaf)
 | .one l=>some [l]
 | .agg ls=>some ls
 | _=>none
section ops
variable (Γ:Ctx)
def nP {α:Type} (o:Option α) (k:α->Prog):Prog:=match o with | some a=>k a | none=>.fail
def tN (t:TypeId) (k:TI->Prog):Prog:=nP (Γ.ty t) k
def rd (x:Operand) (k:fA->Prog):Prog :=
 match x with
 | .tmp t=>.BI t k
 | .const (.pointer none)=>k .junk
 | .const (.agg cs)=>nP (cs.toList.mapM BJ) fun ls=>k (.agg ls)
 | .const v=>nP (BJ v) fun l=>k (.one l)
 | .func f=>k (.fn f [])
 | .global _=>.fail
def zU (ds:List BG) (p:Prog):Prog :=
 match ds with
 | []=>p
 | (k,n)::ds=>.fG k fun ke=>.gK (Nat.beq ke.cv n) (zU ds p)
def vT (l:Leaf) (k:List LT->List (List T)->List BG->Prog):Prog :=
 match l.lt,l.st with
 | .sl es,.nl=>k es [] []
 | .sl es,.sn deps=>zU deps (k es l.d.rows deps)
 | .sl es,.sb key _ cv _ _=>zU [(key,cv)] (k es l.d.rows [(key,cv)])
 | .sl _,.al key n=>.fG key fun ke=>.gK (Nat.beq ke.bO n) (match ke.ch with
   | .row es _ rows=>k es rows [(key,ke.cv)]
   | .fz es rows=>k es rows []
   | _=>.fail)
 | _,_=>.fail
def uj (e:fA) (k:ST->T->Prog):Prog :=
 match e with
 | .one ⟨.sc,.sc s,d⟩=>k s d
 | _=>.fail
def R9 (e:fA) (k:Leaf->Prog):Prog:=match e with | .one l=>k l | _=>.fail
def MN (ms:List M):Bool:=ms.all fun m=>match m with | .F=>true | .O _=>false
def vU:List LT->List M->List Leaf->(List T->Prog)->Prog
 | [],_,[],k=>k []
 | e::es,ms,l::ls,k =>
  match e,l.lt,l.st with
  | .sc s,.sc s',.sc=>if s=s' then vU es ms.tail ls fun ds=>k (l.d::ds) else .fail
  | .sl es',_,.nl=>.gK (match ms.headD .F with | .F=>true | .O _=>!es'.isEmpty) (vU es ms.tail ls fun ds=>k (.l []::ds))
  | .sl _,lt,.sn []=>(match ms.headD .F with
    | .F=>cond (LT.beq e lt) (vU es ms.tail ls fun ds=>k (l.d::ds)) .fail
    | .O _=>.fail)
  | .sl es',_,.al key n=>.fG key fun ke=>.gK (Nat.beq ke.bO n) (match ke.ch with
    | .fz es'' rows=>(match ms.headD .F with
      | .F=>cond (LT.d9 es' es'') (vU es ms.tail ls fun ds=>k (.l rows::ds)) .fail
      | .O _=>.fail)
    | .row es'' afM rows=>(match ms.headD .F with
      | .F=>cond (LT.d9 es' es'') (.bF key { ke with ch:=.fz es'' rows } (vU es ms.tail ls fun ds=>k (.l rows::ds))) .fail
      | .O ms'=>cond (LT.d9 es' es''&&M.d9 ms' afM) (.bF key ⟨.gone,ke.bO+1,ke.cv+1⟩ (vU es ms.tail ls fun ds=>k (.l rows::ds))) .fail)
    | _=>.fail)
  | _,_,_=>.fail
 | _,_,_,_=>.fail
def J8 (dst:Nat) (es:List LT) (ms:List M) (rows:List (List T)):Prog :=
 .fG [dst+2000000] fun ke=>.bF [dst+2000000] ⟨.row es ms rows,ke.bO+1,ke.cv+1⟩ (.kV dst (.one ⟨.al [dst+2000000] (ke.bO+1),.sl es,.l []⟩) .ret)
def Sb (key:Key) (k:Prog):Prog:=.fG key fun ke=>match ke.ch with
 | .row es _ rows=>.bF key { ke with ch:=.fz es rows } k
 | _=>.fail
def afN (fz:Bool) (dst:Nat) (es:List LT) (ms:List M) (rows:List (List T)):Prog :=
 .fG [dst+2000000] fun ke=>.bF [dst+2000000] ⟨.row es ms rows,ke.bO+1,ke.cv+1⟩ (.kV dst (.one ⟨.al [dst+2000000] (ke.bO+1),.sl es,.l []⟩) (cond fz (Sb [dst+2000000] .ret) .ret))
def abD (dst:Nat) (ls:List Leaf):Prog :=
 .fG [dst+2000000] fun ke=>.bF [dst+2000000] ⟨.box ls,ke.bO+1,ke.cv+1⟩ (.kV dst (.ptr [dst+2000000] (ke.bO+1) 0 0) .ret)
def GJ (key:Key) (n cv r off:Nat) (lt:LT) (m:M) (d:T):Leaf :=
 match lt,m with
 | .sl _,.O _=>⟨.sb key n cv r off,lt,d⟩
 | .sl _,_=>⟨.sn [],lt,d⟩
 | _,_=>⟨.sc,lt,d⟩
def Jl (key:Key) (n cv r off size:Nat) (es:List LT) (ms:List M) (row:List T):List Leaf :=
 (List.range size).map fun j=>GJ key n cv r (off+j) (es.getD (off+j) default) (ms.getD (off+j) .F) (row.getD (off+j) dflt)
def GK (deps:List BG) (size:Nat) (es:List LT) (row:List T):List Leaf :=
 (List.range size).map fun j=>XJ deps (es.getD j default) (row.getD j dflt)
def setMany (row:List T) (off:Nat):List T->List T
 | []=>row
 | d::ds=>setMany (row.set off d) (off+1) ds
def gU (s:ByteArray):List (List T):=s.data.toList.map fun b=>[T.i b.toNat]
def pQ (rows:List (List T)):ByteArray:=⟨(rows.map fun r=>UInt8.ofNat (r.getD 0 dflt).int.toNat).toArray⟩
def jO (k:IntKind) (r:BitVec k.bits):T:=.i (k.wrap r.toNat)
def XK (op:BinOp) (k:IntKind) (x y:Int) (K:ST->T->Prog):Prog :=
 match op with
 | .add=>K (.int k) (.i (k.wrap (x+y)))
 | .sub=>K (.int k) (.i (k.wrap (x-y)))
 | .mul=>K (.int k) (.i (k.wrap (x * y)))
 | .quo=>.gK (!decide (y=0)) (K (.int k) (.i (k.wrap (x.tdiv y))))
 | .rem=>.gK (!decide (y=0)) (K (.int k) (.i (x.tmod y)))
 | .and=>K (.int k) (jO k (BitVec.ofInt k.bits x &&& BitVec.ofInt k.bits y))
 | .or=>K (.int k) (jO k (BitVec.ofInt k.bits x ||| BitVec.ofInt k.bits y))
 | .xor=>K (.int k) (jO k (BitVec.ofInt k.bits x ^^^ BitVec.ofInt k.bits y))
 | .andNot=>K (.int k) (jO k (BitVec.ofInt k.bits x &&& ~~~ BitVec.ofInt k.bits y))
 | .eql=>K .bool (.b (x==y))
 | .neq=>K .bool (.b (x != y))
 | .lss=>K .bool (.b (decide (x<y)))
 | .leq=>K .bool (.b (decide (x<=y)))
 | .gtr=>K .bool (.b (decide (x > y)))
 | .geq=>K .bool (.b (decide (x>=y)))
 | _=>.fail
def XL (op:BinOp) (x y:ByteArray) (K:ST->T->Prog):Prog :=
 let eq:=x.toList==y.toList
 let lt:=Op.bytesLess x.toList y.toList
 match op with
 | .add=>.gK (decide (x.size+y.size<9223372036854775808)) (K .str (.s (x++y)))
 | .eql=>K .bool (.b eq)
 | .neq=>K .bool (.b (!eq))
 | .lss=>K .bool (.b lt)
 | .leq=>K .bool (.b (lt||eq))
 | .gtr=>K .bool (.b (!(lt||eq)))
 | .geq=>K .bool (.b (!lt))
 | _=>.fail
def abE:ST->T->T->Option Bool
 | .int _,x,y=>some (x.int==y.int)
 | .bool,x,y=>some (x.bool==y.bool)
 | .str,x,y=>some (x.str.toList==y.str.toList)
 | .any,_,_=>none
def xK:List LT->List Leaf->List Leaf->Option Bool
 | [],[],[]=>some true
 | .sc c::aP,⟨.sc,.sc a,x⟩::ls,⟨.sc,.sc b,y⟩::rs =>
  if c=a/\c=b then
   match abE c x y,xK aP ls rs with
   | some b,some r=>some (b&&r)
   | _,_=>none
  else none
 | _,_,_=>none
def Sc:TK->Bool | .sc .bool=>true | _=>false
def ahr (ti:TI) (op:BinOp) (x y:fA) (K:ST->T->Prog):Prog :=
 match x,y with
 | .one ⟨.sc,.sc (.int k),a⟩,.one ⟨.sc,.sc (.int k'),b⟩ =>
  match op with
  | .shl=>.gK (decide (0<=b.int)) (K (.int k) (.i (k.wrap (a.int * 2 ^ (min b.int.toNat k.bits)))))
  | .shr=>.gK (decide (0<=b.int)) (K (.int k) (.i (a.int.fdiv (2 ^ (min b.int.toNat k.bits)))))
  | _=>if k=k' then XK op k a.int b.int K else .fail
 | .one ⟨.sc,.sc .str,a⟩,.one ⟨.sc,.sc .str,b⟩=>XL op a.str b.str K
 | .one ⟨.sc,.sc .bool,a⟩,.one ⟨.sc,.sc .bool,b⟩ =>
  cond (Sc ti.kind) (match op with
  | .eql=>K .bool (.b (a.bool==b.bool))
  | .neq=>K .bool (.b (!(a.bool==b.bool)))
  | _=>.fail) .fail
 | .agg ls,.agg rs =>
  cond ti.flat (match op with
  | .eql=>nP (xK ti.aP ls rs) fun r=>K .bool (.b r)
  | .neq=>nP (xK ti.aP ls rs) fun r=>K .bool (.b (!r))
  | _=>.fail) .fail
 | _,_=>.fail
def put (dst:Option Nat) (e:fA):Prog:=match dst with | some d=>.kV d e .ret | none=>.ret
def aaf:List LT->List M->Bool
 | [],_=>true
 | e::es,ms=>(match e,ms.headD .F with | .sl es',.O _=>!es'.isEmpty | _,_=>true)&&aaf es ms.tail
def Ey (ms:Nat->List M) (d:Nat) (es:List LT):List M:=match ms d with | []=>es.map fun _=>.F | l=>l
def abF (own:Nat->Bool) (ms:Nat->List M) (dst:Option Nat) (e:fA):Prog :=
 match dst,e with
 | some d0,.one ⟨.nl,.sl es,_⟩=>cond (own d0 && !es.isEmpty) (J8 d0 es (Ey ms d0 es) []) (put dst e)
 | _,_=>put dst e
def oz (dst:Option Nat) (s:ST) (d:T):Prog:=put dst (.one ⟨.sc,.sc s,d⟩)
def bC:Nat:=140737488355328
def au:Nat:=1099511627776
def vV (es:List LT):Bool:=es.all fun t=>match t with | .sc _=>true | _=>false
def tQ:Nat:=999999
structure u7 where
 key:Key
 bO:Nat
 es:List LT
 i:Nat
 j:Nat
structure Pass where
 args:List Arg
 fH:List u7
 deps:List BG
def vg (i j:Nat) (m:PM) (l:Leaf) (c:Pass) (k:AL->Pass->Prog):Prog :=
 match l.lt,l.st with
 | .sc s,.sc=>k (.sc s l.d) c
 | .sl es,.nl=>(match m with
  | .R=>k (.dz es []) c
  | .F=>k (.fz es []) c
  | .O _=>k (.nl es) c)
 | .sl es,.sn deps=>(match m with
  | .R=>zU deps (k (.dz es l.d.rows) { c with deps:=deps++c.deps })
  | .F=>(match deps with | []=>k (.fz es l.d.rows) c | _=>.fail)
  | .O _=>.fail)
 | .sl es,.sb key _ cv _ _=>(match m with
  | .R=>zU [(key,cv)] (k (.dz es l.d.rows) { c with deps:=(key,cv)::c.deps })
  | _=>.fail)
 | .sl es0,.al key n=>.fG key fun ke=>.gK (Nat.beq ke.bO n) (match ke.ch,m with
  | .fz es rows,.R=>.gK (LT.d9 es0 es) (k (.dz es rows) c)
  | .fz es rows,.F=>.gK (LT.d9 es0 es) (k (.fz es rows) c)
  | .row es _ rows,.R=>.gK (LT.d9 es0 es) (k (.dz es rows) { c with deps:=(key,ke.cv)::c.deps })
  | .row es ms rows,.O _=>.gK (LT.d9 es0 es&&Nat.blt j tQ) (k (.own es ms rows) { c with fH:=⟨key,n,es,i,j⟩::c.fH })
  | _,_=>.fail)
 | _,_=>.fail
def FT (i:Nat):Nat->List PM->List Leaf->Pass->(List AL->Pass->Prog)->Prog
 | _,_,[],c,k=>k [] c
 | j,ms,l::ls,c,k=>vg i j (ms.headD .R) l c fun a c=>FT i (j+1) (ms.drop 1) ls c fun as c=>k (a::as) c
def xL:List Leaf->Pass->(List LT->List T->Pass->Prog)->Prog
 | [],c,k=>k [] [] c
 | l::ls,c,k =>
  match l.lt,l.st with
  | .sc s,.sc=>xL ls c fun aP ds c=>k (.sc s::aP) (l.d::ds) c
  | _,_=>vT l fun es rows deps=>xL ls { c with deps:=deps++c.deps } fun aP ds c=>k (.sl es::aP) (.l rows::ds) c
def GL (sz:Option Nat) (e:fA) (c:Pass) (k:Arg->Pass->Prog):Prog :=
 let XM {α:Type} (l:List α):List α:=match sz with | some n=>l.take n | none=>l
 match e with
 | .ptr key n r off=>.fG key fun ke=>.gK (Nat.beq ke.bO n) (match ke.ch with
  | .box ls=>xL (XM (ls.drop off)) { c with deps:=(key,ke.cv)::c.deps } fun aP ds c=>k (.BH aP ds) c
  | .row es _ rows=>.gK (decide (r<rows.length)) (k (.BH (XM (es.drop off)) (XM ((rows.getD r []).drop off))) { c with deps:=(key,ke.cv)::c.deps })
  | .fz es rows=>.gK (decide (r<rows.length)) (k (.BH (XM (es.drop off)) (XM ((rows.getD r []).drop off))) c)
  | _=>.fail)
 | .rp deps aP row=>zU deps (k (.BH (XM aP) (XM row)) { c with deps:=deps++c.deps })
 | _=>.fail
def iG (key:Key):Key:=3000000::key
def mH (key:Key) (j:Nat):Key:=3000001::j::key
def mI (key:Key):Key:=3000002::key
def qW (key:Key):Nat->List LT->List M->List T->(List Leaf->Prog)->Prog
 | _,[],_,_,k=>k []
 | j,e::es,ms,ds,k =>
  let d:=ds.headD dflt
  match e,ms.headD .F with
  | .sl es',.O ms'=>.fG (mH key j) fun ke=>.bF (mH key j) ⟨.row es' ms' d.rows,ke.bO+1,ke.cv+1⟩
    (qW key (j+1) es ms.tail ds.tail fun ls=>k (⟨.al (mH key j) (ke.bO+1),.sl es',.l []⟩::ls))
  | .sl es',.F=>qW key (j+1) es ms.tail ds.tail fun ls=>k (⟨.sn [],.sl es',d⟩::ls)
  | .sc s,_=>qW key (j+1) es ms.tail ds.tail fun ls=>k (⟨.sc,.sc s,d⟩::ls)
def GN (key:Key) (r:Nat) (k:Nat->List Leaf->Prog):Prog :=
 .fG key fun ke=>match ke.ch with
  | .row es ms rows=>.gK (decide (r<rows.length)) (.fG (iG key) fun kb=>.bF key ⟨.hol es ms rows r (kb.bO+1),ke.bO,ke.cv+1⟩ (qW key 0 es ms (rows.getD r []) fun ls =>
    .bF (iG key) ⟨.box ls,kb.bO+1,kb.cv+1⟩ (k (kb.bO+1) ls)))
  | _=>.fail
def UH (key:Key) (es0:List LT) (ms0:List M) (ds:List T) (p:Prog):Prog :=
 .fG key fun ke=>.fG (iG key) fun kb=>match ke.ch,kb.ch with
  | .hol es ms rows r j,.box ls=>.gK (Nat.beq kb.bO j&&Nat.beq ls.length es.length&&LT.d9 es0 es&&M.d9 ms0 ms) (.bF (iG key) ⟨.gone,kb.bO+1,kb.cv+1⟩ (.bF key ⟨.row es ms (rows.set r ds),ke.bO,ke.cv+1⟩ p))
  | _,_=>.fail
def GQ (key:Key) (p:Prog):Prog :=
 .fG key fun ke=>.fG (iG key) fun kb=>match ke.ch,kb.ch with
  | .hol es ms _ _ j,.box ls=>.gK (Nat.beq kb.bO j) (vU es ms ls fun ds=>UH key es ms ds p)
  | _,_=>.fail
def Sd (key:Key) (m:Nat) (k:Nat->Prog):Prog :=
 .fG key fun ke=>match ke.ch with
  | .box ls=>.gK (Nat.ble m ls.length) (.fG (mI key) fun kb=>.bF key ⟨.Jk m (kb.bO+1) (ls.drop m),ke.bO,ke.cv+1⟩ (.bF (mI key) ⟨.box (ls.take m),kb.bO+1,kb.cv+1⟩ (k (kb.bO+1))))
  | _=>.fail
def MO (key:Key) (p:Prog):Prog :=
 .fG key fun ke=>.fG (mI key) fun kb=>match ke.ch,kb.ch with
  | .Jk m j rest,.box ls=>.gK (Nat.beq ls.length m&&Nat.beq kb.bO j) (.bF (mI key) ⟨.gone,kb.bO+1,kb.cv+1⟩ (.bF key ⟨.box (ls++rest),ke.bO,ke.cv+1⟩ p))
  | _,_=>.fail
def closeAll:List (Bool×Key)->Prog->Prog
 | [],p=>p
 | (b,k)::os,p=>cond b (GQ k (closeAll os p)) (MO k (closeAll os p))
def vk (nk:Key) (m:PM) (l:Leaf) (os:List (Bool×Key)) (k:Leaf->List (Bool×Key)->Prog):Prog :=
 match m with
 | .R=>k l os
 | .F=>(match l.st with
  | .al key n=>.fG key fun ke=>.gK (Nat.beq ke.bO n) (match ke.ch with
   | .row es _ rows=>.bF key { ke with ch:=.fz es rows } (k ⟨.sn [],.sl es,.l rows⟩ os)
   | .fz es rows=>k ⟨.sn [],.sl es,.l rows⟩ os
   | _=>.fail)
  | _=>k l os)
 | .O ms=>(match l.st with
  | .nl=>(match ms,l.lt with
   | [],_=>k l os
   | ms,.sl es=>.gK (!es.isEmpty) (.fG nk fun ke=>.bF nk ⟨.row es ms [],ke.bO+1,ke.cv+1⟩ (k ⟨.al nk (ke.bO+1),.sl es,.l []⟩ os))
   | _,_=>.fail)
  | .sb key n cv r off=>.fG key fun ke=>.gK (Nat.beq ke.bO n&&Nat.beq ke.cv cv) (GN key r fun _ ls=>.gK (Nat.blt off ls.length) (k (ls.getD off default) ((true,key)::os)))
  | .al key n=>(match ms with
   | []=>k l os
   | ms=>.fG key fun ke=>.gK (Nat.beq ke.bO n) (match ke.ch with
    | .row es ms0 rows=>cond (M.d9 ms0 ms) (k l os) (.gK (M.uh ms0 ms) (.bF key ⟨.row es ms rows,ke.bO,ke.cv+1⟩ (k l os)))
    | _=>k l os))
  | _=>k l os)
def oL (nk:Key):Nat->List PM->List Leaf->List (Bool×Key)->(List Leaf->List (Bool×Key)->Prog)->Prog
 | _,_,[],os,k=>k [] os
 | j,ms,l::ls,os,k=>vk (5000000::j::nk) (ms.headD .R) l os fun l os=>oL nk (j+1) (ms.drop 1) ls os fun ls os=>k (l::ls) os
def isO:PM->Bool | .O _=>true | _=>false
def ahs (pm:List PM):Bool:=pm.any isO
def needs:List PM->List Leaf->Bool
 | m::pm,l::ls=>(match m,l.st with
  | .O (_::_),.nl=>true
  | .O (_::_),.al _ _=>true
  | .F,.al _ _=>true
  | _,_=>false)||needs pm ls
 | _,_=>false
def GR (key:Key) (n:Nat) (pm:List PM) (os:List (Bool×Key)) (k:List (Bool×Key)->Prog):Prog :=
 .fG key fun ke=>.gK (Nat.beq ke.bO n) <| match ke.ch with
  | .box ls=>cond (needs pm ls) (oL key 0 pm ls os fun ls' os=>.fG key fun ke=>.gK (Nat.beq ke.bO n) (match ke.ch with
   | .box ls0=>.gK (Nat.beq ls'.length ls0.length) (.bF key ⟨.box ls',ke.bO,ke.cv+1⟩ (k os))
   | _=>.fail)) (k os)
  | _=>k os
def GU (nk:Key) (pm:List PM) (e:fA) (os:List (Bool×Key)) (k:fA->List (Bool×Key)->Prog):Prog :=
 match e with
 | .one l=>vk nk (pm.headD .R) l os fun l os=>k (.one l) os
 | .agg ls=>oL nk 0 pm ls os fun ls os=>k (.agg ls) os
 | .ptr key n r off=>cond (ahs pm) (.fG key fun ke=>.gK (Nat.beq ke.bO n&&Nat.beq off 0) (match ke.ch with
   | .box ls=>cond (Nat.blt pm.length ls.length) (Sd key pm.length fun m=>GR (mI key) m pm ((false,key)::os) (k (.ptr (mI key) m 0 0)))
     (GR key n pm os (k e))
   | .row es _ _=>.gK (Nat.beq pm.length es.length) (GN key r fun m _=>GR (iG key) m pm ((true,key)::os) (k (.ptr (iG key) m 0 0)))
   | _=>.fail)) (k e os)
 | e=>k e os
def Ma (d:Nat):Nat->List (List PM)->List fA->List (Bool×Key)->(List fA->List (Bool×Key)->Prog)->Prog
 | _,_,[],os,k=>k [] os
 | i,Y5,e::es,os,k=>GU [d+2000000,700+i] (Y5.headD []) e os fun e os=>Ma d (i+1) (Y5.drop 1) es os fun es os=>k (e::es) os
def Jm (i j:Nat) (l:Leaf) (c:Pass) (k:AL->Pass->Prog):Prog :=
 match l.lt,l.st with
 | .sl _,.al key _=>.fG key fun ke=>match ke.ch with
  | .row _ _ _=>vg i j (.O []) l c k
  | _=>vg i j .F l c k
 | .sl _,.nl=>vg i j (.O []) l c k
 | _,_=>vg i j .F l c k
def Dy (i:Nat):Nat->List Leaf->Pass->(List AL->Pass->Prog)->Prog
 | _,[],c,k=>k [] c
 | j,l::ls,c,k=>Jm i j l c fun a c=>Dy i (j+1) ls c fun as c=>k (a::as) c
def Sg (i sz:Nat) (e:fA) (c:Pass) (k:Arg->Pass->Prog):Prog :=
 match e with
 | .ptr key n _ off=>.fG key fun ke=>.gK (Nat.beq ke.bO n) (match ke.ch with
  | .box ls=>.gK (Nat.beq off 0&&Nat.beq ls.length sz&&Nat.ble sz 1000) (Dy i 0 ls { c with fH:=⟨key,n,[],i,tQ⟩::c.fH } fun as c=>k (.bx as) c)
  | _=>.fail)
 | _=>.fail
def MP:List fA->Pass->(List Arg->Pass->Prog)->Prog
 | [],c,k=>k [] c
 | e::es,c,k=>GL none e c fun a c=>MP es c fun as c=>k (a::as) c
def Si (i:Nat) (pm:List PM) (e:fA) (c:Pass) (k:Arg->Pass->Prog):Prog :=
 match e with
 | .one l=>vg i 0 (pm.headD .R) l c fun a c=>k (.one a) c
 | .agg ls=>FT i 0 pm ls c fun as c=>k (.agg as) c
 | .fn f caps=>MP caps c fun as c=>k (.fn f as) c
 | e=>cond (ahs pm) (Sg i pm.length e c k) (GL (cond pm.isEmpty none (some pm.length)) e c k)
def Sj (Y5:List (List PM)):Nat->List fA->Pass->(List Arg->Pass->Prog)->Prog
 | _,[],c,k=>k [] c
 | i,e::es,c,k=>Si i (Y5.getD i []) e c fun a c=>Sj Y5 (i+1) es c fun as c=>k (a::as) c
def Ez (deps:List BG):List u7->Bool
 | []=>true
 | x::xs=>!(xs.any fun y=>dM x.key y.key||(Nat.beq x.i y.i&&Nat.beq x.j y.j)) && !(deps.any fun d=>dM x.key d.1)&&Ez deps xs
def vv (i j:Nat):List u7->Option u7
 | []=>none
 | l::ls=>cond (Nat.beq l.i i&&Nat.beq l.j j) (some l) (vv i j ls)
def kg (r:gu) (i j:Nat):Option (List LT×List M×List (List T)):=(r.owns.getD i []).getD j none
def vW (r:gu) (i:Nat):Option (List RL):=r.bxs.getD i none
def abG (l:Leaf):Leaf:={ l with st:=.dead,d:=.l [] }
def vw (r:gu):List u7->Prog->Prog
 | [],p=>p
 | l::ls,p=>.fG l.key fun ke=>cond (Nat.beq l.j tQ)
  (match ke.ch with
  | .box old=>(match vW r l.i with
   | some rls=>.gK (Nat.beq rls.length old.length) (.bF l.key ⟨.box (old.map abG),ke.bO,ke.cv+1⟩ (vw r ls p))
   | none=>.fail)
  | _=>.fail)
  (match kg r l.i l.j with
  | some (es,ms,rows)=>.gK (LT.d9 l.es es) (.bF l.key ⟨.row es ms rows,ke.bO,ke.cv+1⟩ (vw r ls p))
  | none=>.bF l.key ⟨.gone,ke.bO+1,ke.cv+1⟩ (vw r ls p))
def MQ (c:Pass) (key:Key) (l:RL) (k:Leaf->Prog):Prog :=
 match l with
 | .sc s d=>k ⟨.sc,.sc s,d⟩
 | .fz es rows=>k ⟨.sn [],.sl es,.l rows⟩
 | .dz es rows=>k ⟨.sn c.deps,.sl es,.l rows⟩
 | .nl es=>k ⟨.nl,.sl es,.l []⟩
 | .own _ es ms rows=>.fG key fun ke=>.bF key ⟨.row es ms rows,ke.bO+1,ke.cv+1⟩ (k ⟨.al key (ke.bO+1),.sl es,.l []⟩)
 | .par i j=>nP (vv i j c.fH) fun l=>k ⟨.al l.key l.bO,.sl l.es,.l []⟩
def xM (c:Pass) (dst q:Nat):Nat->List RL->(List Leaf->Prog)->Prog
 | _,[],k=>k []
 | j,l::ls,k=>MQ c [dst+2000000,q,j] l fun x=>xM c dst q (j+1) ls fun xs=>k (x::xs)
def yY (c:Pass) (dst:Nat):Nat->List RE->(List fA->Prog)->Prog
 | _,[],k=>k []
 | q,e::es,k =>
  match e with
  | .one l=>MQ c [dst+2000000,q,0] l fun x=>yY c dst (q+1) es fun xs=>k (.one x::xs)
  | .agg ls=>xM c dst q 0 ls fun x=>yY c dst (q+1) es fun xs=>k (.agg x::xs)
  | .bx _ ls=>xM c dst q 0 ls fun x=>.gK (Nat.beq x.length ls.length&&Nat.ble ls.length 1000) (.fG [dst+2000000,q,tQ] fun ke =>
    .bF [dst+2000000,q,tQ] ⟨.box x,ke.bO+1,ke.cv+1⟩ (yY c dst (q+1) es fun xs=>k (.ptr [dst+2000000,q,tQ] (ke.bO+1) 0 0::xs)))
  | _=>.fail
def xA (c:Pass) (dst:Nat) (r:gu):List u7->Prog->Prog
 | [],p=>p
 | l::ls,p=>cond (Nat.beq l.j tQ)
  (match vW r l.i with
  | some rls=>xM c dst (1000+l.i) 0 rls fun xs=>.fG l.key fun ke=>match ke.ch with
   | .box old=>.gK (Nat.beq ke.bO l.bO&&Nat.beq xs.length old.length) (.bF l.key ⟨.box xs,ke.bO,ke.cv+1⟩ (xA c dst r ls p))
   | _=>.fail
  | none=>.fail)
  (xA c dst r ls p)
def ad6:M->PM | .F=>.F | .O ms=>.O ms
def MR (nk:Key) (ms:List M):List fA->(List fA->Prog)->Prog
 | [],k=>k []
 | e::es,k=>match ms with
  | []=>k (e::es)
  | ms=>match e with
   | .one l=>vk nk ((ms.map ad6).headD .R) l [] fun l _=>k (.one l::es)
   | .agg ls=>oL nk 0 (ms.map ad6) ls [] fun ls _=>k (.agg ls::es)
   | e=>k (e::es)
def abH (xs:List fA):fA:=match xs with | [x]=>x | _=>.ML xs
def MS (fr f:FuncId) (dst:Option Nat) (es:List fA):Prog :=
 .gK (Γ.fn f).isSome (Ma (match dst with | some d=>d | none=>2000000+f) 0 (Γ.sig f).Y5 es [] fun es os=>Sj (Γ.sig f).Y5 0 es ⟨[],[],[]⟩ fun args c =>
 .gK (Ez c.deps c.fH) (.call f args fun r =>
  vw r c.fH (xA c (match dst with | some d=>d | none=>2000000+f) r c.fH (match dst with
   | none=>closeAll os .ret
   | some d=>yY c d 0 r.rs fun xs=>closeAll os (MR [d+2000000,600] (Γ.cast fr d) xs fun xs=>.kV d (abH xs) .ret)))))
def J9:List Operand->(List fA->Prog)->Prog
 | [],k=>k []
 | x::xs,k=>rd x fun e=>J9 xs fun es=>k (e::es)
def MU (es:List LT):Bool:=es.all fun l=>match l with | .sc .any=>false | _=>true
def partsOf (es:List LT) (ms:List M):List (Nat×Operand)->(List (Nat×List T)->Prog)->Prog
 | [],k=>k []
 | (i,x)::ps,k=>rd x fun e=>nP (Ay e) fun ls=>vU es ms ls fun ds=>partsOf es ms ps fun r=>k ((i,ds)::r)
def GV (n:Nat):List (Nat×List T)->List (List T)->Option (List (List T))
 | [],rows=>some rows
 | (i,ds)::ps,rows=>if i<rows.length&&ds.length==n then GV n ps (rows.set i ds) else none
mutual
def ae6:LT->M
 | .sc _=>.F
 | .sl es=>.O (abI es)
def abI:List LT->List M
 | []=>[]
 | e::es=>ae6 e::abI es
end
def pR:List LT->List Leaf->(List M->Prog)->Prog
 | e::es,l::ls,k=>match l.st with
  | .al key _=>.fG key fun ke=>(match ke.ch with
    | .row _ ms _=>pR es ls fun r=>k (.O ms::r)
    | _=>pR es ls fun r=>k (.F::r))
  | .nl=>pR es ls fun r=>k (ae6 e::r)
  | _=>pR es ls fun r=>k (.F::r)
 | es,_,k=>k (es.map fun _=>.F)
def MV (ms:List M) (es:List LT) (ps:List (Nat×Operand)) (k:List M->Prog):Prog :=
 match ms,ps with
 | [],(_,x)::_=>rd x fun e=>nP (Ay e) fun ls=>pR es ls k
 | [],[]=>k (es.map fun _=>.F)
 | ms,_=>k ms
def BK:List (Nat×Operand)->(List (Nat×List Leaf)->Prog)->Prog
 | [],k=>k []
 | (i,x)::ps,k=>rd x fun e=>nP (Ay e) fun ls=>BK ps fun r=>k ((i,ls)::r)
def xO (Γ:Ctx) (fs:List (Nat×TypeId)):List (Nat×List Leaf)->List Leaf->Option (List Leaf)
 | [],acc=>some acc
 | (i,ls)::ps,acc=>match fs[i]? with
  | some (off,ft)=>match Γ.ty ft with
   | some tf=>cond (Nat.beq ls.length tf.aP.length&&Nat.ble (off+ls.length) acc.length) (xO Γ fs ps (acc.take off++ls++acc.drop (off+ls.length))) none
   | none=>none
  | none=>none
def oM:List LT->List Leaf->List Leaf
 | lt::aP,l::ls=>(match l.st,lt with | .nl,.sl _=>{ l with lt:=lt } | _,_=>l)::oM aP ls
 | _,ls=>ls
def Jo (ls:List Leaf):fA:=match ls with | [l]=>.one l | _=>.junk
def Jp (aP:List LT):fA->fA
 | .one l=>Jo (oM aP [l])
 | .agg ls=>.agg (oM aP ls)
 | e=>e
def rF (GX:List LT) (msT:List M) (lx:Leaf) (k:List (List T)->List BG->Prog):Prog :=
 match lx.st,lx.lt with
 | .sc,.sc .str=>.gK (LT.d9 GX [.sc (.int .u8)]&&MN msT) (k (gU lx.d.str) [])
 | .nl,_=>k [] []
 | .al key n,_=>.fG key fun ke=>.gK (Nat.beq ke.bO n) (match ke.ch with
   | .row es ms rows=>.gK (LT.d9 GX es) (cond (MN ms) (.gK (MN msT) (k rows [(key,ke.cv)])) (.gK (M.uh ms msT) (.bF key ⟨.row es msT rows,ke.bO,ke.cv+1⟩ (.fG key fun ke=>.bF key ⟨.gone,ke.bO+1,ke.cv+1⟩ (k rows [])))))
   | .fz es rows=>.gK (LT.d9 GX es&&MN msT) (k rows [])
   | _=>.fail)
 | _,_=>vT lx fun es rows deps=>.gK (LT.d9 GX es&&MN msT&&(vV GX||deps.isEmpty)) (k rows deps)
def um (dst:Nat) (GX:List LT) (ms:List M) (old new:List (List T)):Prog :=
 .gK (Nat.ble GX.length 1000&&decide ((old.length+new.length) * GX.length<=au)) (J8 dst GX ms (old++new))
def MW (dst:Nat) (GX:List LT) (key:Key) (n:Nat) (lx:Leaf):Prog :=
 .fG key fun ke=>.gK (Nat.beq ke.bO n) (match ke.ch with
   | .row es ms _=>.gK (LT.d9 GX es) (rF GX ms lx fun new deps=>.gK (!(deps.any fun d=>dM d.1 key)) (.fG key fun ke=>.gK (Nat.beq ke.bO n) (match ke.ch with
     | .row es' ms' rows=>.gK (LT.d9 GX es'&&M.d9 ms ms') (.bF key ⟨.gone,ke.bO+1,ke.cv+1⟩ (um dst GX ms rows new))
     | _=>.fail)))
   | _=>.fail)
def MX (msB:List M) (dst:Nat) (GX:List LT) (s x:fA):Prog :=
 R9 s fun ls=>R9 x fun lx =>
 match ls.st with
 | .nl=>(match msB,lx.st with
  | [],.al key _=>.fG key fun ke=>(match ke.ch with
    | .row _ ms _=>rF GX ms lx fun new _=>um dst GX ms [] new
    | _=>rF GX (GX.map fun _=>.F) lx fun new _=>um dst GX (GX.map fun _=>.F) [] new)
  | [],_=>rF GX (GX.map fun _=>.F) lx fun new _=>um dst GX (GX.map fun _=>.F) [] new
  | msB,_=>rF GX msB lx fun new _=>um dst GX msB [] new)
 | .al key n=>MW dst GX key n lx
 | .sb key n cv r off=>.fG key fun ke=>.gK (Nat.beq ke.bO n&&Nat.beq ke.cv cv) (GN key r fun _ ls=>match (ls.getD off default).st with
   | .al key n=>MW dst GX key n lx
   | _=>.fail)
 | _=>.fail
def Dz:TK->Bool | .sc .str=>true | _=>false
def sF:TK->Bool | .slice _=>true | _=>false
def sliceBound (e:Option fA) (d:Int) (k:Int->Prog):Prog:=match e with
  | none=>k d
  | some e=>uj e fun s t=>match s with | .int _=>k t.int | _=>.fail
def mM (ti:TI) (cut:Nat) (dst:Nat) (x:fA) (lo hi:Option fA):Prog :=
 R9 x fun l =>
 match l.st,l.lt with
 | .sc,.sc .str =>
  let n:Int:=l.d.str.size
  .gK (Dz ti.kind) <| sliceBound hi n fun h=>sliceBound lo 0 fun a=>.gK (decide (0<=h/\h<=n)) (.gK (decide (0<=a/\a<=h))
   (oz (some dst) .str (.s (l.d.str.extract a.toNat h.toNat))))
 | _,_=>vT l fun es rows deps =>
  let n:Int:=rows.length
  .gK (match ti.aP with | [.sl tes]=>sF ti.kind&&Nat.beq es.length tes.length | _=>false) <| sliceBound hi n fun h=>sliceBound lo 0 fun a=>.gK (decide (0<=h/\h<=n)) (.gK (decide (0<=a/\a<=h))
   (match cut with
    | 0=>.kV dst (.one ⟨.sn deps,.sl es,.l ((rows.take h.toNat).drop a.toNat)⟩) .ret
    | 1=>(match l.st,lo with
    | .al key _,none=>.fG key fun ke=>match ke.ch with
      | .row es ms rows=>.gK (MN ms) (.bF key ⟨.gone,ke.bO+1,ke.cv+1⟩ (J8 dst es ms (rows.take h.toNat)))
      | _=>.fail
    | _,_=>.fail)
    | _=>(match l.st with
    | .al key n=>.fG key fun ke=>.gK (Nat.beq ke.bO n && !dM key sD) (match ke.ch with
      | .row es0 _ QD=>.bF key { ke with ch:=.fz es0 QD } (.kV dst (.one ⟨.sn [],.sl es,.l ((rows.take h.toNat).drop a.toNat)⟩) .ret)
      | .fz _ _=>.kV dst (.one ⟨.sn [],.sl es,.l ((rows.take h.toNat).drop a.toNat)⟩) .ret
      | _=>.fail)
    | .sn []=>.kV dst (.one ⟨.sn [],.sl es,.l ((rows.take h.toNat).drop a.toNat)⟩) .ret
    | .nl=>.kV dst (.one ⟨.sn [],.sl es,.l ((rows.take h.toNat).drop a.toNat)⟩) .ret
    | _=>.fail)))
def i64:ST:=.int .i64
def zV (x y:Int):Int:=if y<x then y else x
def zW (x y:Int):Int:=if y > x then y else x
def Sk (f:Int->Int->Int):List fA->Option (IntKind×Int)
 | [.one ⟨.sc,.sc (.int k),x⟩,.one ⟨.sc,.sc (.int k'),y⟩]=>if k=k' then some (k,f x.int y.int) else none
 | _=>none
def Mc:TK->Bool | .sc (.int .u8)=>true | _=>false
def DC (dst:Nat) (ajj aht:TI) (x:fA):Prog :=
 match ajj.kind,aht.kind with
 | .sc (.int _),.sc (.int k)=>uj x fun s d=>match s with
  | .int _=>oz (some dst) (.int k) (.i (k.wrap d.int))
  | _=>.fail
 | .sc .str,.sc .str=>uj x fun s d=>match s with
  | .str=>oz (some dst) .str d
  | _=>.fail
 | .sc .str,.slice el=>tN Γ el fun te=>.gK (Mc te.kind) (uj x fun s d=>match s,aht.aP with
  | .str,[.sl [.sc (.int .u8)]]=>.gK (decide (d.str.size<=bC)) (.kV dst (.one ⟨.sn [],.sl [.sc (.int .u8)],.l (gU d.str)⟩) .ret)
  | _,_=>.fail)
 | .slice el,.sc .str=>tN Γ el fun te=>.gK (Mc te.kind) (R9 x fun l=>vT l fun es rows _=>match es with
  | [.sc (.int .u8)]=>oz (some dst) .str (.s (pQ rows))
  | _=>.fail)
 | _,_=>.fail
def Md (pm:List M) (d0:Nat) (ls:List Leaf):Prog :=
 match pm with
 | []=>abD d0 ls
 | pm=>oL [d0+2000000,500] 0 (pm.map ad6) ls [] fun ls _=>abD d0 ls
def Me (pm:List M) (dst:Option Nat) (ls:List Leaf):Prog :=
 match pm,dst with
 | _::_,some d=>oL [d+2000000,400] 0 (pm.map ad6) ls [] fun ls _=>put dst (.agg ls)
 | _,_=>put dst (.agg ls)
def isZero:Operand->Bool | .const (.int _ 0)=>true | _=>false
def slice3 (ti:TI) (dst:Nat) (x:fA) (lo:Option fA) (hi mx:fA) (z:Bool):Prog :=
 R9 x fun l=>vT l fun es rows deps =>
  .gK (match ti.aP with | [.sl tes]=>sF ti.kind&&Nat.beq es.length tes.length && !es.isEmpty | _=>false) <| uj hi fun sh h=>uj mx fun sm m=>sliceBound lo 0 fun a=>(match sh,sm with
   | .int _,.int _=>.gK (decide (0<=h.int/\h.int<=m.int/\m.int<=rows.length)) (.gK (decide (0<=a/\a<=h.int))
    (cond (z&&lo.isNone) (.gK (decide (h.int=0/\m.int=0)) (J8 dst es (es.map fun _=>.F) [])) (.kV dst (.one ⟨.sn deps,.sl es,.l ((rows.take h.int.toNat).drop a.toNat)⟩) .ret)))
   | _,_=>.fail)
def Y6 (s:ST):List Leaf->Bool
 | []=>true
 | l::ls=>(match l.st,l.lt with | .sc,.sc s'=>decide (s=s') | _,_=>false)&&Y6 s ls
def MZ (m:Nat) (el:TypeId) (dst:Nat) (e:fA):Prog:=tN Γ el fun te=>match te.aP,e with
 | [.sc s],.ptr key n _ off=>.fG key fun ke=>.gK (Nat.beq ke.bO n) (match ke.ch with
   | .box ls=>.gK (Nat.beq off 0&&Nat.beq ls.length m&&Nat.ble m 1000&&Y6 s ls) (.kV dst (.one ⟨.sn [(key,ke.cv)],.sl [.sc s],.l (ls.map fun l=>[l.d])⟩) .ret)
   | _=>.fail)
 | _,_=>.fail
def Sl (f:FuncId) (t:TypeId) (dst:Option Nat) (e:fA):Prog :=
 match e with
 | .ML _=>put dst e
 | e=>tN Γ t fun ti=>abF (Γ.own f) (Γ.ms f) dst (Jp ti.aP e)
def Sm:fA->Bool | .ML _=>false | .fn _ _=>false | _=>true
def M0 (s:ST) (x:T):T:=match s with | .bool=>.b x.bool | _=>x
def bD (f:FuncId) (o:Oper):Prog :=
 let dst:=o.dst
 let wd:=nP o.dst
 match o.op with
 | .move x | .assign x=>rd x fun e=>Sl Γ f o.type dst e
 | .pick c a b=>rd c fun c=>rd a fun a=>rd b fun b=>uj c fun sc c =>
   match sc with
   | .bool=>.br c.bool (uj a fun s x=>oz dst s (M0 s x)) (uj b fun s x=>oz dst s (M0 s x))
   | _=>.fail
 | .alloc t=>wd fun d0=>tN Γ t fun ti=>Md (Γ.box f d0) d0 (ti.aP.map GI)
 | .box t x=>wd fun d0=>tN Γ t fun ti=>rd x fun e=>nP (Ay e) fun ls=>Md (Γ.box f d0) d0 (oM ti.aP ls)
 | .build t ps=>tN Γ t fun ti=>match ti.kind with
   | .struct fs=>BK ps.toList fun r=>nP (xO Γ fs r (ti.aP.map GI)) fun ls=>Me (match dst with | some d=>Γ.box f d | none=>[]) dst (oM ti.aP ls)
   | .array m el=>tN Γ el fun te=>BK ps.toList fun r=>nP (xO Γ ((List.range m).map fun i=>(i * te.aP.length,el)) r (ti.aP.map GI)) fun ls=>Me (match dst with | some d=>Γ.box f d | none=>[]) dst (oM ti.aP ls)
   | _=>.fail
 | .buildSlice t n ps=>wd fun d0=>tN Γ t fun ti=>match ti.kind,ti.aP with
   | .slice _,[.sl es]=>.gK (MU es&&Nat.ble (n * es.length) 16777216) <|
     MV (Γ.ms f d0) es ps.toList fun ms=>.gK (aaf es ms) (partsOf es ms ps.toList fun r =>
     nP (GV es.length r (List.replicate n (es.map Dw))) fun rows=>afN (!Γ.own f d0) d0 es ms rows)
   | _,_=>.fail
 | .load t a=>tN Γ t fun ti=>rd a fun e =>
   let size:=ti.aP.length
   let agg:=xJ ti.kind
   match e with
   | .ptr key n r off=>.fG key fun ke=>.gK (Nat.beq ke.bO n) (match ke.ch with
     | .box ls=>.gK (Nat.ble (off+size) ls.length) (put dst (Dx agg ((ls.drop off).take size)))
     | .row es ms rows=>.gK (Nat.ble (off+size) es.length) (.gK (decide (r<rows.length)) (put dst (Dx agg (Jl key n ke.cv r off size es ms (rows.getD r [])))))
     | .fz es rows=>.gK (Nat.ble (off+size) es.length) (.gK (decide (r<rows.length)) (put dst (Dx agg (GK [] size (es.drop off) ((rows.getD r []).drop off)))))
     | .hol _ _ _ r' j=>.gK (Nat.beq r r') (.fG (iG key) fun kb=>.gK (Nat.beq kb.bO j) <| match kb.ch with
       | .box ls=>.gK (Nat.ble (off+size) ls.length) (put dst (Dx agg ((ls.drop off).take size)))
       | _=>.fail)
     | _=>.fail)
   | .rp deps aP row=>.gK (Nat.ble size aP.length) (zU deps (put dst (Dx agg (GK deps size aP row))))
   | _=>.fail
 | .store t a x=>tN Γ t fun ti=>rd a fun e=>rd x fun v=>nP (Ay v) fun ls =>
   match e with
   | .ptr key n r off=>.fG key fun ke=>.gK (Nat.beq ke.bO n) (match ke.ch with
     | .box old=>.gK (Nat.beq ls.length ti.aP.length&&Nat.ble (off+ls.length) old.length) (.bF key ⟨.box (old.take off++oM ti.aP ls++old.drop (off+ls.length)),ke.bO,ke.cv+1⟩ (put dst .und))
     | .row es0 ms0 _=>.gK (Nat.beq ls.length ti.aP.length&&Nat.ble (off+ls.length) es0.length) <| vU ((es0.drop off).take ls.length) (ms0.drop off) ls fun ds=>.fG key fun ke=>.gK (Nat.beq ke.bO n) <| match ke.ch with
       | .row es ms rows=>.gK (LT.d9 es0 es&&M.d9 ms0 ms&&decide (r<rows.length))
         (.bF key ⟨.row es ms (rows.set r (setMany (rows.getD r []) off ds)),ke.bO,ke.cv+1⟩ (put dst .und))
       | _=>.fail
     | .hol _ _ _ r' j=>.gK (Nat.beq r r') (.fG (iG key) fun kb=>.gK (Nat.beq kb.bO j) <| match kb.ch with
       | .box old=>.gK (Nat.beq ls.length ti.aP.length&&Nat.ble (off+ls.length) old.length) (.bF (iG key) ⟨.box (old.take off++oM ti.aP ls++old.drop (off+ls.length)),kb.bO,kb.cv+1⟩ (GQ key (put dst .und)))
       | _=>.fail)
     | _=>.fail)
   | _=>.fail
 | .nilCheck x=>rd x fun e=>match e with
   | .ptr k n _ _=>.fG k fun ke=>.gK (Nat.beq ke.bO n) (put dst e)
   | .rp ds _ _=>zU ds (put dst e)
   | _=>.fail
 | .binOp op t x y _=>tN Γ t fun ti=>rd x fun x=>rd y fun y=>ahr ti op x y fun s d=>oz dst s d
 | .unOp op _ x=>rd x fun x=>uj x fun s d=>match op,s with
   | .not,.bool=>oz dst .bool (.b (!d.bool))
   | .neg,.int k=>oz dst (.int k) (.i (k.wrap (0-d.int)))
   | .xor,.int k=>oz dst (.int k) (jO k (BitVec.ofInt k.bits (if k.signed then -1 else k.max) ^^^ BitVec.ofInt k.bits d.int))
   | _,_=>.fail
 | .convert s t x=>wd fun d0=>tN Γ s fun ts=>tN Γ t fun tt=>rd x fun e=>DC Γ d0 ts tt e
 | .makeSlice t l c=>wd fun d0=>tN Γ t fun ti=>rd l fun l=>rd c fun c=>uj l fun sl l=>uj c fun sc c=>match sl,sc,ti.kind,ti.aP with
   | .int .i64,.int .i64,.slice el,[.sl es]=>tN Γ el fun te =>
     .gK (MU es&&aaf es (Ey (Γ.ms f) d0 es)&&decide (0<=l.int/\l.int<=c.int)) (.gK (decide (c.int * te.bytes<=bC)) (J8 d0 es (Ey (Γ.ms f) d0 es) (List.replicate l.int.toNat (es.map Dw))))
   | _,_,_,_=>.fail
 | .slice t x lo hi none=>wd fun d0=>tN Γ t fun ti=>rd x fun x =>
   let go (lo:Option fA) (hi:Option fA):=mM ti (Γ.cut f d0) d0 x lo hi
   match lo,hi with
   | none,none=>(match ti.kind with | .array m el=>MZ Γ m el d0 x | _=>go none none)
   | some a,none=>rd a fun a=>go (some a) none
   | none,some b=>rd b fun b=>go none (some b)
   | some a,some b=>rd a fun a=>rd b fun b=>go (some a) (some b)
 | .slice t x lo (some hi) (some mx)=>wd fun d0=>tN Γ t fun ti=>rd x fun x=>rd hi fun h=>rd mx fun m=>(match lo with
   | none=>slice3 ti d0 x none h m (isZero hi&&isZero mx)
   | some lo=>rd lo fun l=>slice3 ti d0 x (some l) h m false)
 | .fieldAddr t x i=>tN Γ t fun ti=>rd x fun e=>match ti.kind with
   | .struct fs=>nP fs[i]? fun (off,_)=>match e with
     | .ptr k n r o=>.fG k fun ke=>.gK (Nat.beq ke.bO n) (put dst (.ptr k n r (o+off)))
     | .rp deps aP row=>.gK (Nat.ble off aP.length) (zU deps (put dst (.rp deps (aP.drop off) (row.drop off))))
     | _=>.fail
   | _=>.fail
 | .field t x i=>tN Γ t fun ti=>rd x fun e=>match ti.kind,e with
   | .struct fs,.agg ls=>nP fs[i]? fun (off,ft)=>tN Γ ft fun tf=>.gK (Nat.ble (off+tf.aP.length) ls.length) (put dst (Dx (xJ tf.kind) ((ls.drop off).take tf.aP.length)))
   | _,_=>.fail
 | .indexAddr t x i=>tN Γ t fun ti=>rd x fun e=>rd i fun ie=>uj ie fun si ix=>match si,ti.kind,ti.aP,e with
   | .int _,.slice _,[.sl tes],.one l=>(match l.st with
     | .al key n=>.fG key fun ke=>.gK (Nat.beq ke.bO n) (match ke.ch with
       | .row es _ rows=>.gK (Nat.beq es.length tes.length) (.gK (decide (0<=ix.int/\ix.int<rows.length)) (put dst (.ptr key n ix.int.toNat 0)))
       | .fz es rows=>.gK (Nat.beq es.length tes.length) (.gK (decide (0<=ix.int/\ix.int<rows.length)) (put dst (.ptr key n ix.int.toNat 0)))
       | _=>.fail)
     | _=>vT l fun es rows deps=>.gK (Nat.beq es.length tes.length) (.gK (decide (0<=ix.int/\ix.int<rows.length)) (put dst (.rp deps es (rows.getD ix.int.toNat [])))))
   | _,_,_,_=>.fail
 | .index t x i=>tN Γ t fun ti=>rd x fun x=>rd i fun i=>uj x fun sx d=>uj i fun si ix=>match si,sx,ti.kind with
   | .int _,.str,.sc .str=>.gK (decide (0<=ix.int/\ix.int<d.str.size)) (oz dst (.int .u8) (.i (d.str.data.toList.getD ix.int.toNat 0).toNat))
   | _,_,_=>.fail
 | .extract x i=>rd x fun e=>match e with
   | .ML es=>nP es[i]? fun e=>put dst e
   | _=>.fail
 | .makeFunc (.func g) first caps=>cond (first.isEmpty) (J9 caps.toList fun es=>.gK (es.all Sm) (put dst (.fn g es))) .fail
 | .call c=>match c.callee with
   | .value g=>rd g fun g=>J9 c.args.toList fun es=>match g with
     | .fn g caps=>MS Γ f g dst (es++caps)
     | _=>.fail
   | .builtin .len=>nP c.argTypes[0]? fun t=>tN Γ t fun ti=>J9 c.args.toList fun es=>match es with
     | [.one l]=>(match l.st,l.lt with
       | .sc,.sc .str=>.gK (Dz ti.kind) (oz dst i64 (.i l.d.str.size))
       | _,_=>.gK (sF ti.kind) (vT l fun _ rows _=>.lim (decide (rows.length<=bC)) (oz dst i64 (.i rows.length))))
     | _=>.fail
   | .builtin .min=>J9 c.args.toList fun es=>nP (Sk zV es) fun (k,v)=>oz dst (.int k) (.i v)
   | .builtin .max=>J9 c.args.toList fun es=>nP (Sk zW es) fun (k,v)=>oz dst (.int k) (.i v)
   | .builtin .append=>wd fun d0=>J9 c.args.toList fun es=>match es,c.argTypes.toList with
     | [s,x],[t,tx]=>tN Γ t fun ti=>tN Γ tx fun tk=>match ti.kind,ti.aP with
       | .slice _,[.sl aP]=>.gK (sF tk.kind||Dz tk.kind) (MX (Γ.ms f d0) d0 aP s x)
       | _,_=>.fail
     | _,_=>.fail
   | _=>.fail
 | _=>.fail
def bit (t:Nat):Nat:=1 <<< t
def ae7 (m:Nat):Operand->Nat
 | .tmp t=>m ||| bit t
 | _=>m
def Y7 (ops:Array Oper):List Oper->Nat->Nat
 | [],m=>m
 | o::os,m =>
  let m:=Y7 ops os m
  let m:=match o.dst with
   | some d=>m ^^^ (m &&& bit d)
   | none=>m
  let m:=o.op.operands.toList.foldl ae7 m
  match o.guard with
  | some (i,_)=>(match (ops[i]?).bind (·.dst) with | some d=>m ||| bit d | none=>m)
  | none=>m
def M4 (ex:List (Nat×Nat)) (id:Nat):Nat:=match ex.find? (fun p=>Nat.beq p.1 id) with | some p=>p.2 | none=>0
def lin (ret:Nat):List (Nat×Nat)->Code->Nat->Nat
 | _,.region _ ops _,m=>Y7 ops ops.toList m
 | ex,.seq a b,m=>lin ret ex a (lin ret ex b m)
 | ex,.cond c a b,m=>ae7 (lin ret ex a m ||| lin ret ex b m) c
 | ex,.block id b,m=>lin ret ((id,m)::ex) b m
 | ex,.loop b,_=>lin ret ex b (lin ret ex b 0)
 | ex,.exit id,_=>M4 ex id
 | _,.ret,_=>ret
 | _,_,m=>m
structure Pack where
 es:List (Nat×fA)
 ks:List (Key×Ch)
 deriving Inhabited
inductive Fq where
 | normal | exit (id:Nat) | ret
 deriving Inhabited
def DF:Ch->Bool
 | .Jk _ _ _=>false
 | .hol _ _ _ _ _=>false
 | _=>true
def sG (σ:S) (ds:List BG):Bool:=ds.all fun d=>Nat.beq (σ.k d.1).cv d.2&&DF (σ.k d.1).ch
def oN (ds:List BG):List BG:=ds.map fun d=>(d.1,0)
def Az (σ:S) (l:Leaf):Leaf :=
 match l.st with
 | .sn ds=>cond (sG σ ds) { l with st:=.sn (oN ds) } { l with st:=.dead,d:=.l [] }
 | .sb k _ cv _ _=>cond (sG σ [(k,cv)]) { l with st:=.sn [(k,0)] } { l with st:=.dead,d:=.l [] }
 | .al k n=>cond (Nat.beq (σ.k k).bO n&&DF (σ.k k).ch) { l with st:=.al k 0 } { l with st:=.dead,d:=.l [] }
 | _=>l
def wK (σ:S):Nat->fA->fA
 | _,.one l=>.one (Az σ l)
 | _,.agg ls=>.agg (ls.map (Az σ))
 | n+1,.ML es=>.ML (es.map (wK σ n))
 | _,.ptr k n i off=>cond (Nat.beq (σ.k k).bO n&&DF (σ.k k).ch) (.ptr k 0 i off) .junk
 | _,.rp ds aP row=>cond (sG σ ds) (.rp (oN ds) aP row) .junk
 | n+1,.fn f caps=>.fn f (caps.map (wK σ n))
 | _,.und=>.und
 | _,_=>.junk
def vB (l:Leaf):List Key:=match l.st with
 | .sn ds=>ds.map (·.1)
 | .sb k _ _ _ _=>[k]
 | .al k _=>[k]
 | _=>[]
def Mf:Nat->fA->List Key
 | _,.one l=>vB l
 | _,.agg ls=>ls.flatMap vB
 | n+1,.ML es=>es.flatMap (Mf n)
 | _,.ptr k _ _ _=>[k]
 | _,.rp ds _ _=>ds.map (·.1)
 | n+1,.fn _ caps=>caps.flatMap (Mf n)
 | _,_=>[]
def EA (ks new:List Key):List Key:=new.foldl (fun ks k=>cond (ks.any (dM k)) ks (ks++[k])) ks
def abJ:Ch->List Key
 | .box ls=>ls.flatMap vB
 | _=>[]
def Sn (k:Key):Nat->List Key->Key
 | _,[]=>k
 | i,u::us=>cond (dM k u) [1000000,i] (Sn k (i+1) us)
def Sq (np:Nat):Key->Bool
 | i::_=>Nat.blt i np
 | []=>false
def eu (np:Nat) (ks:List Key) (k:Key):Key:=cond (Sq np k||dM k sD) k (Sn k 0 ks)
def Jq (ks:List Key) (k:Key):Bool:=ks.any (dM k)
def BL (np:Nat) (ks:List Key) (ds:List BG):List BG:=ds.map fun d=>(eu np ks d.1,d.2)
def sH (np:Nat) (ks:List Key) (l:Leaf):Leaf :=
 match l.st with
 | .sn ds=>cond (ds.all fun d=>Jq ks d.1) { l with st:=.sn (BL np ks ds) } { l with st:=.dead,d:=.l [] }
 | .sb _ _ _ _ _=>{ l with st:=.dead,d:=.l [] }
 | .al k n=>cond (Jq ks k) { l with st:=.al (eu np ks k) n } { l with st:=.dead,d:=.l [] }
 | _=>l
def xP (np:Nat) (ks:List Key):Nat->fA->fA
 | _,.one l=>.one (sH np ks l)
 | _,.agg ls=>.agg (ls.map (sH np ks))
 | n+1,.ML es=>.ML (es.map (xP np ks n))
 | _,.ptr k n i off=>cond (Jq ks k) (.ptr (eu np ks k) n i off) .junk
 | _,.rp ds aP row=>cond (ds.all fun d=>Jq ks d.1) (.rp (BL np ks ds) aP row) .junk
 | n+1,.fn f caps=>.fn f (caps.map (xP np ks n))
 | _,.und=>.und
 | _,_=>.junk
def vX (σ:S):Ch->Ch
 | .box ls=>.box (ls.map (Az σ))
 | .Jk _ _ _=>.gone
 | .hol _ _ _ _ _=>.gone
 | c=>c
def Fu (np:Nat) (ks:List Key):Ch->Ch
 | .box ls=>.box (ls.map (sH np ks))
 | c=>c
def bitsOf (n m:Nat):List Nat:=(List.range n).filter fun t=>Nat.testBit m t
def yZ (np n m:Nat) (σ:S):Pack :=
 let es:=(bitsOf n m).map fun t=>(t,wK σ 3 (σ.s t))
 let ks:=EA [] (es.flatMap fun e=>Mf 3 e.2)
 let La:=EA ks (ks.flatMap fun k=>abJ (vX σ (σ.k k).ch))
 ⟨es.map fun e=>(e.1,xP np La 3 e.2),La.map fun k=>(eu np La k,Fu np La (vX σ (σ.k k).ch))⟩
def uN (t:Nat):List (Nat×fA)->fA
 | []=>.junk
 | (u,e)::r=>cond (Nat.beq t u) e (uN t r)
def DI (k:Key):List (Key×Ch)->KE
 | []=>⟨.gone,0,0⟩
 | (u,c)::r=>cond (dM k u) ⟨c,0,0⟩ (DI k r)
def lX (p:Pack):S:=⟨fun t=>uN t p.es,fun k=>DI k p.ks⟩
def XO (b:Bool):fA:=.one ⟨.sc,.sc .bool,.b b⟩
variable (cf:FuncId->List Arg->R3 gu)
def Sr (a b:Tr):Bool :=
 !(a.ws.any fun t=>b.ws.any (Nat.beq t)||b.rs.any (Nat.beq t)) && !(b.ws.any fun t=>a.rs.any (Nat.beq t)) &&
 !(a.wk.any fun t=>b.wk.any (dM t)||b.rk.any (dM t)) && !(b.wk.any fun t=>a.rk.any (dM t))
def Sv (acc:List Nat) (o:Oper):Nat:=o.after.toList.foldl (fun s e=>cond (Region.binds .any e) (s ||| 2 ^ e.on ||| acc.getD e.on 0) s) 0
def GY:List Oper->List Nat->List Nat
 | [],acc=>acc
 | o::os,acc=>GY os (acc++[Sv acc o])
def Mg:Nat->List Oper->Bool
 | _,[]=>true
 | j,o::os=>(o.after.toList.all fun e=>!Region.binds .any e||Nat.blt e.on j)&&Mg (j+1) os
def Mh (bf:List Nat) (i:Nat) (ti:Tr):Nat->List Tr->Bool
 | _,[]=>true
 | j,tj::ts=>(Nat.testBit (bf.getD j 0) i||Sr ti tj)&&Mh bf i ti (j+1) ts
def Mi (bf:List Nat):Nat->List Tr->Bool
 | _,[]=>true
 | i,ti::ts=>Mh bf i ti (i+1) ts&&Mi bf (i+1) ts
def M5 (ops:Array Oper) (BD:List Tr):Bool:=Mg 0 ops.toList&&Mi (GY ops.toList []) 0 BD
def dI (np nt:Nat) (o:Oper):Bool:=match o.dst with | some d=>Nat.blt d nt | none=>true
def wM (g:Nat):List (Nat×Bool)->Option Bool
 | []=>none
 | (u,b)::r=>cond (Nat.beq g u) (some b) (wM g r)
def sI (ws:List Nat):List (Nat×Bool)->List (Nat×Bool)
 | []=>[]
 | (u,b)::r=>cond (ws.any (Nat.beq u)) (sI ws r) ((u,b)::sI ws r)
def UJ (asm:List (Nat×Bool)) (x:Operand) (e:fA):fA :=
 match x with
 | .tmp u=>(match wM u asm with
  | some w=>XO w
  | none=>e)
 | _=>e
def Mj (f:FuncId) (asm:List (Nat×Bool)) (o:Oper):Prog :=
 match o.op with
 | .pick (.tmp c) a b=>(match wM c asm with
  | some v=>.BI c fun _=>rd a fun ea=>rd b fun eb=>cond v (uj (UJ asm a ea) fun s x=>oz o.dst s (M0 s x)) (uj (UJ asm b eb) fun s x=>oz o.dst s (M0 s x))
  | none=>bD Γ f o)
 | _=>bD Γ f o
def sJ {α:Type} (f np nt:Nat) (ops:Array Oper):List Oper->S->List Tr->List (Nat×Bool)->(S->List Tr->List (Nat×Bool)->R3 α)->R3 α
 | [],σ,BD,asm,K=>K σ BD.reverse asm
 | o::os,σ,BD,asm,K =>
  cond (dI np nt o) (
   let step (XP:Tr) (asm:List (Nat×Bool)):R3 α:=(Mj Γ f asm o).run cf σ XP fun σ tr=>sJ f np nt ops os σ (tr::BD) (sI tr.ws asm) K
   let skip (g:Nat) (asm:List (Nat×Bool)):R3 α:=(put o.dst .und).run cf σ { rs:=[g] } fun σ tr=>sJ f np nt ops os σ (tr::BD) (sI tr.ws asm) K
   match o.guard with
   | none=>step {} asm
   | some (i,want) =>
    match (ops[i]?).bind (·.dst) with
    | none=>.bad
    | some g =>
     match wM g asm with
     | some b=>cond (b==want) (step { rs:=[g] } asm) (skip g asm)
     | none =>
      match σ.s g with
      | .und=>skip g asm
      | .one ⟨.sc,.sc .bool,d⟩=>cond (d.bool==want) (step { rs:=[g] } ((g,want)::asm)) (skip g ((g,!want)::asm))
      | _=>.bad) .bad
def Sw (σ:S):List (Nat×Bool)->S
 | []=>σ
 | (g,b)::r=>(Sw σ r).kV g (XO b)
def wN (l:Leaf) (p:Prog):Prog :=
 match l.st with
 | .al key n=>.fG key fun ke=>cond (Nat.beq ke.bO n) (match ke.ch with
   | .row es _ rows=>.bF key { ke with ch:=.fz es rows } p
   | _=>p) p
 | _=>p
def AA:List Leaf->Prog->Prog
 | [],p=>p
 | l::ls,p=>wN l (AA ls p)
def E9:List (Nat×Nat)->Prog
 | []=>.ret
 | (t,j)::r=>.BI t fun e=>match e with
  | .one l=>wN l (E9 r)
  | .agg ls=>wN (ls.getD j default) (E9 r)
  | .ptr k _ _ off=>.fG k fun ke=>(match ke.ch with
   | .box ls=>wN (ls.getD (off+j) default) (E9 r)
   | _=>E9 r)
  | _=>E9 r
structure Fi where
 f:FuncId
 np:Nat
 nt:Nat
 ret:Nat
def lY {α:Type} (lf:List (Nat×Nat)->Code->Pack->R3 (Fq×Pack)) (fi:Fi):List (Nat×Nat)->Nat->Code->S->(Fq->S->R3 α)->R3 α
 | _,_,.skip,σ,K=>K .normal σ
 | _,_,.region id ops dr,σ,K=>(E9 (Γ.rg fi.f id)).run cf σ {} fun σ _=>sJ Γ cf fi.f fi.np fi.nt ops ops.toList σ [] [] fun σ BD asm=>cond (!dr||M5 ops BD) (K .normal (Sw σ asm)) .bad
 | ex,af,.seq a b,σ,K=>lY lf fi ex (lin fi.ret ex b af) a σ fun c σ=>match c with
   | .normal=>lY lf fi ex af b σ K
   | c=>K c σ
 | ex,af,.cond c a b,σ,K =>
  match c with
  | .tmp t=>(match σ.s t with
   | .one ⟨.sc,.sc .bool,d⟩=>cond d.bool (lY lf fi ex af a (σ.kV t (XO true)) K) (lY lf fi ex af b (σ.kV t (XO false)) K)
   | _=>.bad)
  | .const (.bool true)=>lY lf fi ex af a σ K
  | .const (.bool false)=>lY lf fi ex af b σ K
  | _=>.bad
 | ex,af,.block id b,σ,K=>lY lf fi ((id,af)::ex) af b σ fun c σ=>match c with
   | .exit id'=>cond (Nat.beq id' id) (K .normal σ) (K (.exit id') σ)
   | c=>K c σ
 | ex,_,.loop b,σ,K=>(lf ex b (yZ fi.np fi.nt (lin fi.ret ex b (lin fi.ret ex b 0)) σ)).bind fun cp=>K cp.1 (lX cp.2)
 | _,_,.exit id,σ,K=>K (.exit id) σ
 | _,_,.ret,σ,K=>K .ret σ
 | _,_,_,_,_=>.bad
def Fv (fi:Fi):Nat->List (Nat×Nat)->Code->Pack->R3 (Fq×Pack)
 | 0,_,_,_=>.bad
 | n+1,ex,b,p =>
  let m:=lin fi.ret ex b (lin fi.ret ex b 0)
  lY Γ cf (Fv fi n) fi ex m b (lX p) fun c σ=>match c with
   | .normal=>Fv fi n ex b (yZ fi.np fi.nt m σ)
   | .exit id=>.ok (.exit id,yZ fi.np fi.nt (M4 ex id) σ)
   | .ret=>.ok (.ret,yZ fi.np fi.nt fi.ret σ)
def XQ (i j:Nat):AL->Leaf
 | .sc s d=>⟨.sc,.sc s,d⟩
 | .fz es rows=>⟨.sn [],.sl es,.l rows⟩
 | .dz es rows=>⟨.sn [(sD,0)],.sl es,.l rows⟩
 | .own es _ _=>⟨.al [i,j] 0,.sl es,.l []⟩
 | .nl es=>⟨.nl,.sl es,.l []⟩
def xQ (i:Nat):Nat->List AL->List Leaf
 | _,[]=>[]
 | j,a::as=>XQ i j a::xQ i (j+1) as
def ae8:Arg->fA
 | .BH aP row=>.rp [(sD,0)] aP row
 | _=>.junk
def abK (i:Nat):Arg->fA
 | .one a=>.one (XQ i 0 a)
 | .agg as=>.agg (xQ i 0 as)
 | .BH aP row=>.rp [(sD,0)] aP row
 | .bx _=>.ptr [i,tQ] 0 0 0
 | .fn f caps=>.fn f (caps.map ae8)
def Fw (i:Nat):Nat->List AL->List (Key×Ch)
 | _,[]=>[]
 | j,a::as=>match a with
  | .own es ms rows=>([i,j],.row es ms rows)::Fw i (j+1) as
  | _=>Fw i (j+1) as
def Y8 (i:Nat):Arg->List (Key×Ch)
 | .one a=>Fw i 0 [a]
 | .agg as=>Fw i 0 as
 | .bx as=>([i,tQ],.box (xQ i 0 as))::Fw i 0 as
 | _=>[]
def M6:Nat->List Arg->List (Nat×fA)
 | _,[]=>[]
 | i,a::as=>(i,abK i a)::M6 (i+1) as
def xR:Nat->List Arg->List (Key×Ch)
 | _,[]=>[]
 | i,a::as=>Y8 i a++xR (i+1) as
def Jr (args:List Arg):Pack:=⟨M6 0 args,xR 0 args⟩
def ae9:Ch->Bool | .gone=>true | _=>false
def Mk (σ:S) (np:Nat) (l:Leaf):Option RL :=
 match l.lt,l.st with
 | .sc s,.sc=>some (.sc s l.d)
 | .sl es,.nl=>some (.nl es)
 | .sl es,.sn ds=>(match ds with
  | []=>some (.fz es l.d.rows)
  | ds=>cond (ae9 (σ.k sD).ch&&ds.all fun d=>dM d.1 sD&&Nat.beq (σ.k sD).cv d.2) (some (.dz es l.d.rows)) none)
 | .sl es0,.al k n =>
  let ke:=σ.k k
  cond (Nat.beq ke.bO n) (match ke.ch with
   | .fz es rows=>cond (LT.d9 es0 es) (some (.fz es rows)) none
   | .row es ms rows=>cond (LT.d9 es0 es) (match k with
     | [i,j]=>cond (Nat.blt i np) (some (.par i j)) (some (.own k es ms rows))
     | _=>cond (Nat.blt (k.headD 0) np) none (some (.own k es ms rows))) none
   | _=>none) none
 | _,_=>none
def kI (σ:S) (np:Nat):List Leaf->Option (List RL)
 | []=>some []
 | l::ls=>match Mk σ np l,kI σ np ls with
  | some r,some rs=>some (r::rs)
  | _,_=>none
def M7 (σ:S) (np:Nat):fA->Option RE
 | .one l=>(Mk σ np l).map .one
 | .agg ls=>(kI σ np ls).map .agg
 | .ptr k n _ off=>cond (Nat.beq (σ.k k).bO n&&Nat.beq off 0 && !Nat.blt (k.headD 0) np) (match (σ.k k).ch with
  | .box ls=>(kI σ np ls).map (.bx k)
  | _=>none) none
 | _=>none
def GZ (σ:S) (np:Nat):List fA->Option (List RE)
 | []=>some []
 | l::ls=>match M7 σ np l,GZ σ np ls with
  | some r,some rs=>some (r::rs)
  | _,_=>none
def za (σ:S) (i:Nat):Nat->List AL->List (Option (List LT×List M×List (List T)))
 | _,[]=>[]
 | j,a::as=>(match a with
  | .own ..=>(match (σ.k [i,j]).ch with | .row es ms rows=>some (es,ms,rows) | _=>none)
  | _=>none)::za σ i (j+1) as
def abL (σ:S) (i:Nat) (a:Arg):List (Option (List LT×List M×List (List T))) :=
 match a with | .one a=>za σ i 0 [a] | .agg as=>za σ i 0 as | .bx as=>za σ i 0 as | _=>[]
def uO (σ:S):Nat->List Arg->List (List (Option (List LT×List M×List (List T))))
 | _,[]=>[]
 | i,a::as=>abL σ i a::uO σ (i+1) as
def zX (σ:S) (np:Nat):Nat->List Arg->Option (List (Option (List RL)))
 | _,[]=>some []
 | i,.bx _::as=>(match (σ.k [i,tQ]).ch with
  | .box ls=>(match kI σ np ls,zX σ np (i+1) as with
   | some r,some rs=>some (some r::rs)
   | _,_=>none)
  | _=>none)
 | i,_::as=>(zX σ np (i+1) as).map (none :: ·)
def iH (rl:RL):List Key:=match rl with | .own k _ _ _=>[k] | _=>[]
def iI (o:Option (List RL)):List Key:=match o with | some ls=>ls.flatMap iH | none=>[]
def dY:RE->List Key
 | .one (.own k _ _ _)=>[k]
 | .agg ls=>ls.filterMap fun l=>match l with | .own k _ _ _=>some k | _=>none
 | .bx k ls=>k::ls.flatMap iH
 | _=>[]
def xB:List Key->Bool
 | []=>true
 | k::ks=>!(ks.any (dM k))&&xB ks
def XR (σ:S):List ResultVar->Option (List fA)
 | []=>some []
 | .tmp t::rs=>(XR σ rs).map fun es=>σ.s t::es
 | .cell a t::rs=>match Γ.ty t,σ.s a with
  | some ti,.ptr k m _ off=>cond (Nat.beq (σ.k k).bO m) (match (σ.k k).ch with
    | .box ls=>cond (Nat.ble (off+ti.aP.length) ls.length) ((XR σ rs).map fun es=>Dx (xJ ti.kind) ((ls.drop off).take ti.aP.length)::es) none
    | _=>none) none
  | _,_=>none
def Dh (fn:Func) (args:List Arg) (σ:S):R3 gu :=
 let np:=args.length
 match XR Γ σ fn.results.toList with
 | none=>.bad
 | some es =>
  match GZ σ np es with
  | some rs=>(match zX σ np 0 args with
   | some bs=>cond (xB (rs.flatMap dY++bs.flatMap iI)) (.ok ⟨rs,uO σ 0 args,bs⟩) .bad
   | none=>.bad)
  | none=>.bad
def zY:List ResultVar->Prog->Prog
 | [],p=>p
 | .tmp t::rs,p=>.BI t fun e=>(match e with | .one l=>wN l (zY rs p) | .agg ls=>AA ls (zY rs p) | _=>zY rs p)
 | .cell a _::rs,p=>.BI a fun e=>(match e with | .ptr k _ _ _=>.fG k fun ke=>(match ke.ch with | .box ls=>AA ls (zY rs p) | _=>zY rs p) | _=>zY rs p)
def BM (nk:Key) (l:Leaf) (k:Leaf->Prog):Prog :=
 match l.st with
 | .al key n=>cond (dM key nk) (k l) (.fG key fun ke=>cond (Nat.beq ke.bO n) (match ke.ch with
   | .row es ms rows=>.fG nk fun kn=>.bF nk ⟨.row es ms rows,kn.bO+1,kn.cv+1⟩ (.bF key ⟨.gone,ke.bO+1,ke.cv+1⟩ (k ⟨.al nk (kn.bO+1),.sl es,.l []⟩))
   | _=>k l) (k l))
 | _=>k l
def ahu:M->PM | .F=>.R | .O ms=>.O ms
def afO:M->Bool | .O [.O []]=>true | _=>false
def Ml (nk:Key) (m:M) (l:Leaf) (k:Leaf->Prog):Prog :=
 cond (afO m) (k l) <| match l.st with
 | .nl=>vk nk (ahu m) l [] fun l _=>k l
 | .al key _=>(match m with
  | .O ms=>.fG key fun ke=>(match ke.ch with
   | .row _ ms0 _=>cond (M.uh ms0 ms) (vk nk (.O ms) l [] fun l _=>BM nk l k) (BM nk l k)
   | _=>BM nk l k)
  | .F=>BM nk l k)
 | _=>k l
def AJ (base:Nat):Nat->List M->List Leaf->(List Leaf->Prog)->Prog
 | _,_,[],k=>k []
 | j,ms,l::ls,k=>Ml [6000000,base,j] (ms.headD .F) l fun l=>AJ base (j+1) ms.tail ls fun ls=>k (l::ls)
def afa (ls:List Leaf):Bool:=ls.any fun l=>match l.st with | .nl=>true | .al _ _=>true | _=>false
def Js (base:Nat) (ms:List M) (key:Key) (n:Nat) (p:Prog):Prog :=
 .fG key fun ke=>cond (Nat.beq ke.bO n) (match ke.ch with
  | .box ls=>cond (afa ls) (AJ base 0 ms ls fun ls'=>.fG key fun ke=>.gK (Nat.beq ke.bO n) (match ke.ch with
   | .box ls0=>.gK (Nat.beq ls'.length ls0.length) (.bF key ⟨.box ls',ke.bO,ke.cv+1⟩ p)
   | _=>.fail)) p
  | _=>p) p
def vY (f:FuncId):Nat->List ResultVar->Prog->Prog
 | _,[],p=>p
 | q,.tmp t::rs,p=>.BI t fun e=>(match e with
  | .one l=>Ml [6000000,q,0] ((Γ.can f q).headD .F) l fun l=>.kV t (.one l) (vY f (q+1) rs p)
  | .agg ls=>cond (afa ls) (AJ q 0 (Γ.can f q) ls fun ls=>.kV t (.agg ls) (vY f (q+1) rs p)) (vY f (q+1) rs p)
  | .ptr k n _ _=>Js q (Γ.can f q) k n (vY f (q+1) rs p)
  | _=>vY f (q+1) rs p)
 | q,.cell a _::rs,p=>.BI a fun e=>(match e with | .ptr k n _ _=>Js q (Γ.can f q) k n (vY f (q+1) rs p) | _=>vY f (q+1) rs p)
def G5 (f:FuncId):Nat->List Arg->Prog->Prog
 | _,[],p=>p
 | i,.bx _::as,p=>Js (1000+i) (Γ.can f (1000+i)) [i,tQ] 0 (G5 f (i+1) as p)
 | i,_::as,p=>G5 f (i+1) as p
def ze (f:FuncId) (fn:Func) (args:List Arg):Prog :=
 let p:=vY Γ f 0 fn.results.toList (G5 Γ f 0 args .ret)
 cond (Γ.ret f) (zY fn.results.toList p) p
def G6 (fn:Func):Nat:=fn.results.foldl (fun m r=>match r with | .tmp t=>m ||| bit t | .cell t _=>m ||| bit t) 0
def afb:AL->Bool | .own ..=>true | _=>false
def G7 (args:List Arg):Nat:=args.zipIdx.foldl (fun m (a,i)=>cond (match a with | .one l=>afb l | .agg ls=>ls.any afb | .bx _=>true | _=>false) (m ||| bit i) m) 0
def DJ (fO:FuncId->Option (List Arg->R3 gu)):Nat->FuncId->List Arg->R3 gu
 | 0,_,_=>.bad
 | n+1,f,args =>
  match fO f with
  | some g=>g args
  | none =>
   match Γ.fn f with
   | none=>.bad
   | some fn =>
    match fn.body with
    | none=>.bad
    | some c =>
     let fi:Fi:=⟨f,args.length,fn.ntmps,G6 fn ||| G7 args⟩
     cond (Nat.ble args.length 1000000&&Nat.ble args.length fn.ntmps) (lY Γ (DJ fO n) (Fv Γ (DJ fO n) fi n) fi [] fi.ret c (lX (Jr args)) fun ctl σ=>match ctl with
      | .exit _=>.bad
      | _=>(ze Γ f fn args).run (DJ fO n) σ {} fun σ _=>Dh Γ fn args σ) .bad
end ops
end Go.E

namespace Go.E
abbrev tO:List LT:=[.sc (.int .i64),.sc (.str),.sc (.str)]
abbrev tP:List LT:=[.sc (.str),.sc (.str)]
abbrev tR:List LT:=[.sc (.int .i64),.sc (.int .i64),.sl tO]
abbrev tS:List LT:=[.sc (.int .i64),.sl tR,.sc (.int .i64),.sl [.sc (.str),.sc (.str)],.sl tR]
abbrev tJ:List LT:=[.sc (.int .i64),.sl tO,.sc (.int .i64),.sl [.sc (.int .i64)]]
abbrev tW:List LT:=[.sc (.int .i64),.sc (.int .i64),.sc (.int .i64),.sl tO,.sc (.bool)]
abbrev tB:List LT:=[.sc (.int .i64),.sl tO]
abbrev tC:List LT:=[.sc (.int .i64),.sc (.bool)]
abbrev tI:List LT:=[.sc (.int .i64)]
abbrev tT:List LT:=[.sc (.str)]
abbrev tU:List LT:=[.sc (.int .u8)]
abbrev mS:List M:=[.F,.O [.F,.F,.F],.F,.O [.F,.F],.O [.F,.F,.F]]
abbrev m5:List M:=[.F,.F,.F,.F,.F]
abbrev m4:List M:=[.F,.F,.F,.F]
abbrev m3:List M:=[.F,.F,.F]
abbrev m2:List M:=[.F,.F]
abbrev tX:Option TI:=some ⟨.other,[.sc (.any)],8,false⟩
abbrev tY:Option TI:=some ⟨.other,[.sc (.any)],16,false⟩
end Go.E

namespace Go.E
open Go
abbrev aA:=Nat->Nat->Prop
def aA.or (A B:aA):aA:=fun b o=>A b o\/B b o
def aA.apart (A B:aA):Prop:=∀ b o,A b o->B b o->False
def cellAt (w:World) (b o:Nat):Option Value:=w.cell? ⟨b,o,none⟩
def Single (v:Value):Prop:=(∀ cs,v ≠ .agg cs)/\(∀ vs,v ≠ .tuple vs)
theorem Single.cells {v:Value} (h:Single v):v.cells = #[v]:=by
 cases v <;> first | rfl | exact absurd rfl (h.1 _)
def Ka:ST->Value->T->Prop
 | .int k,c,d=>∃ n,c = .int k n/\d = .i n/\k.min<=n/\n<=k.max
 | .bool,c,d=>∃ b,c = .bool b/\d = .b b
 | .str,c,d=>∃ s,c = .string s/\d = .s s/\s.size<9223372036854775808
 | .any,c,d=>d = .x c/\Single c
mutual
def aH (w:World) (S:aA):LT->Value->T->Prop
 | .sc s,c,d=>Ka s c d
 | .sl es,c,d=>∃ a cap rows,d = .l rows/\c = .slice a rows.length cap/\rows.length<=cap/\rows.length<=bC /\
   (rows=[] \/ ∃ b o,a=some ⟨b,o,none⟩ /\ ∀ i (h:i<rows.length),dG w S S es b (o+i * es.length) rows[i])
def dG (w:World) (A S:aA):List LT->Nat->Nat->List T->Prop
 | [],_,_,row=>row=[]
 | e::es,b,o,row=>∃ d rest v,row=d::rest/\A b o/\cellAt w b o=some v/\aH w S e v d/\dG w A S es b (o+1) rest
end
theorem Ka.single {s:ST} {c:Value} {d:T} (h:Ka s c d):Single c:=by
 cases s
 ·obtain ⟨n,rfl,-⟩:=h; exact ⟨fun _ h=>(nomatch h),fun _ h=>(nomatch h)⟩
 ·obtain ⟨n,rfl,-⟩:=h; exact ⟨fun _ h=>(nomatch h),fun _ h=>(nomatch h)⟩
 ·obtain ⟨n,rfl,-⟩:=h; exact ⟨fun _ h=>(nomatch h),fun _ h=>(nomatch h)⟩
 ·exact h.2
theorem aH.single {w:World} {S:aA} {lt:LT} {c:Value} {d:T} (h:aH w S lt c d):Single c:=by
 cases lt with
 | sc s=>unfold aH at h; exact h.single
 | sl es=>unfold aH at h; obtain ⟨a,cap,rows,-,rfl,-⟩:=h; exact ⟨fun _ h=>(nomatch h),fun _ h=>(nomatch h)⟩
mutual
theorem aH.mono {w w':World} {S S':aA} (hs : ∀ b o,S b o->S' b o) (hw : ∀ b o,S b o->cellAt w' b o=cellAt w b o) :
  ∀ (lt:LT) {c:Value} {d:T},aH w S lt c d->aH w' S' lt c d
 | .sc s,c,d,h=>by unfold aH at *; exact h
 | .sl es,c,d,h=>by
  unfold aH at h ⊢
  obtain ⟨a,cap,rows,h1,h2,h3,h4,h6⟩:=h
  refine ⟨a,cap,rows,h1,h2,h3,h4,?_⟩
  rcases h6 with h6 | ⟨b,o,ha,h6⟩
  ·exact .inl h6
  ·exact .inr ⟨b,o,ha,fun i hi=>dG.mono hs hw hs hw es (h6 i hi)⟩
theorem dG.mono {w w':World} {A A' S S':aA} (ha : ∀ b o,A b o->A' b o) (hwa : ∀ b o,A b o->cellAt w' b o=cellAt w b o)
  (hs : ∀ b o,S b o->S' b o) (hw : ∀ b o,S b o->cellAt w' b o=cellAt w b o) :
  ∀ (es:List LT) {b o:Nat} {row:List T},dG w A S es b o row->dG w' A' S' es b o row
 | [],b,o,row,h=>by unfold dG at *; exact h
 | e::es,b,o,row,h=>by
  unfold dG at h ⊢
  obtain ⟨d,rest,v,h1,h2,h3,h4,h5⟩:=h
  exact ⟨d,rest,v,h1,ha _ _ h2,(hwa _ _ h2).trans h3,aH.mono hs hw e h4,dG.mono ha hwa hs hw es h5⟩
end
theorem eD : ∀ (a b:Key),dM a b=true ↔ a=b
 | [],[]=>by simp [dM]
 | [],_::_=>by simp [dM]
 | _::_,[]=>by simp [dM]
 | a::as,b::bs=>by simp [dM,eD as bs]
theorem fI (a:Key):dM a a=true:=(eD a a).2 rfl
def noO (ms:List M):Prop:=∀ m∈ms,∀ x,m ≠ .O x
def Block (w:World) (b:Nat) (c:Array Value) (el:TypeId) (fz:Nat×Nat):Prop:=w.heap[b]? = some (.cells c el fz)
def aK (p:List Value->List T->List Nat->Prop) (sz:Nat):List (List T)->List Value->List Nat->Prop
 | [],_,bs=>bs=[]
 | r::rs,cs,bs=>∃ b1 b2,bs=b1++b2/\p (cs.take sz) r b1/\aK p sz rs (cs.drop sz) b2
mutual
def bS (w:World) (I:aA):LT->M->Value->T->List Nat->Prop
 | .sc s,_,v,d,bs=>Ka s v d/\bs=[]
 | .sl es,.F,v,d,bs=>aH w I (.sl es) v d/\bs=[]
 | .sl es,.O ms,v,d,bs=>∃ rows,d = .l rows/\es≠[]/\rows.length<=bC/\(((∃ a,v = .slice a 0 0)/\rows=[]/\bs=[]) \/
   ∃ b cap c el fz bs',bs=b::bs'/\v = .slice (some ⟨b,0,none⟩) rows.length cap/\rows.length<=cap/\Block w b c el fz/\c.size=cap * es.length/\(∀ o,o<=c.size->¬ (fz.1<=o/\o<fz.2)) /\
    aK (fun vs ds bs=>ak w I es ms vs ds bs) es.length rows c.toList bs')
def ak (w:World) (I:aA):List LT->List M->List Value->List T->List Nat->Prop
 | [],_,vs,ds,bs=>vs=[]/\ds=[]/\bs=[]
 | e::es,ms,vs,ds,bs=>∃ v vs' d ds' b1 b2,vs=v::vs'/\ds=d::ds'/\bs=b1++b2/\bS w I e (ms.headD .F) v d b1/\ak w I es ms.tail vs' ds' b2
end
def qj (w:World) (b:Nat):Nat:=match w.heap[b]? with | some (.cells c _ _)=>c.size | _=>0
def fC (w:World):List Nat->Prop
 | []=>True
 | b::bs=>(b∈bs->qj w b=0)/\fC w bs
def FB (w:World) (bs:List Nat):aA:=fun b o=>b∈bs/\o<qj w b
def aS (w:World) (I:aA) (es:List LT) (ms:List M) (rows:List (List T)) (h:Value) (F:aA):Prop :=
 ∃ bs,fC w bs/\bS w I (.sl es) (.O ms) h (.l rows) bs /\ ∀ b o,F b o ↔ FB w bs b o
structure Gh where
 h:Key->Value
 F:Key->aA
 D:aA
def Live:Ch->Prop
 | .box _=>True
 | .row _ _ _=>True
 | .Jk _ _ _=>True
 | .hol _ _ _ _ _=>True
 | _=>False
def dw (κ:Key->KE) (g:Gh) (I:aA) (ds:List BG):aA:=fun b o=>I b o \/ ∃ d∈ds,(d.1=sD/\g.D b o)\/(Live (κ d.1).ch/\g.F d.1 b o)
def Cur (κ:Key->KE) (ds:List BG):Prop:=∀ d∈ds,(κ d.1).cv=d.2
def Old (κ:Key->KE) (ds:List BG):Prop:=∀ d∈ds,d.2<=(κ d.1).cv
def ad7:LT->Prop | .sl _=>True | _=>False
def addrIn (esz:Nat) (h:Value) (i off:Nat):Option (Nat×Nat) :=
 match h with
 | .pointer (some ⟨b,o,none⟩)=>some (b,o+off)
 | .slice (some ⟨b,o,none⟩) _ _=>some (b,o+i * esz+off)
 | _=>none
def lC:Ch->Nat
 | .row es _ _=>es.length
 | .fz es _=>es.length
 | .hol es _ _ _ _=>es.length
 | _=>0
def Dt (κ:Key->KE) (g:Gh) (w:World) (I:aA) (l:Leaf) (v:Value):Prop :=
 Single v/\match l.st with
 | .sc=>∃ s,l.lt = .sc s/\Ka s v l.d
 | .nl=>ad7 l.lt/\v = .slice none 0 0/\l.d = .l []
 | .sn ds=>ad7 l.lt/\Old κ ds/\(Cur κ ds->aH w (dw κ g I ds) l.lt v l.d)
 | .sb k n cv r off=>ad7 l.lt/\n<=(κ k).bO/\Old κ [(k,cv)]/\(Cur κ [(k,cv)]->aH w (dw κ g I [(k,cv)]) l.lt v l.d /\
   ((κ k).bO=n->∃ b o,addrIn (lC (κ k).ch) (g.h k) r off=some (b,o)/\cellAt w b o=some v/\dw κ g I [(k,cv)] b o))
 | .al k n=>ad7 l.lt/\n<=(κ k).bO/\((κ k).bO=n->v=g.h k)
 | .dead=>True
def bZ (κ:Key->KE) (g:Gh) (w:World) (I:aA):List Leaf->List Value->Prop
 | [],[]=>True
 | l::ls,v::vs=>Dt κ g w I l v/\bZ κ g w I ls vs
 | _,_=>False
def ql (κ:Key->KE) (g:Gh) (w:World) (I:aA):fA->Value->Prop
 | .one l,v=>Dt κ g w I l v
 | .agg ls,v=>∃ cs,v = .agg cs/\bZ κ g w I ls cs.toList
 | .ptr k n i off,v=>Single v/\n<=(κ k).bO/\((κ k).bO=n->∃ b o,v = .pointer (some ⟨b,o,none⟩)/\addrIn (lC (κ k).ch) (g.h k) i off=some (b,o))
 | .rp ds aP row,v=>Single v/\Old κ ds/\(Cur κ ds->∃ b o,v = .pointer (some ⟨b,o,none⟩)/\dG w (dw κ g I ds) (dw κ g I ds) aP b o row)
 | .und,v=>v=undef
 | .junk,_=>True
 | _,_=>False
def og (κ:Key->KE) (g:Gh) (w:World) (I:aA):List fA->List Value->Prop
 | [],[]=>True
 | l::ls,v::vs=>ql κ g w I l v/\og κ g w I ls vs
 | _,_=>False
def jq (κ:Key->KE) (g:Gh) (w:World) (I:aA):fA->Value->Prop
 | .ML es,v=>∃ vs,v = .tuple vs/\og κ g w I es vs.toList
 | .fn f caps,v=>∃ vs,v = .func (.func f) #[] vs/\og κ g w I caps vs.toList
 | e,v=>ql κ g w I e v
def lF (κ:Key->KE) (g:Gh) (w:World) (I:aA) (ls:List Leaf) (h:Value) (F:aA):Prop :=
 ∃ b o c el fz,h = .pointer (some ⟨b,o,none⟩)/\Block w b c el fz/\o+ls.length<=c.size /\
  (∀ j,j<ls.length->¬ (fz.1<=o+j/\o+j<fz.2))/\(∀ b' o',F b' o' ↔ b'=b/\o<=o'/\o'<o+ls.length) /\
  bZ κ g w I ls ((c.toList.drop o).take ls.length)
def M8 (κ:Key->KE) (g:Gh) (w:World) (I:aA) (k:Key) (m j:Nat) (ls:List Leaf) (h:Value) (F:aA):Prop :=
 (∃ b o c el fz,h = .pointer (some ⟨b,o,none⟩)/\Block w b c el fz/\o+m+ls.length<=c.size /\
  (∀ j,j<m+ls.length->¬ (fz.1<=o+j/\o+j<fz.2))/\(∀ b' o',F b' o' ↔ b'=b/\o+m<=o'/\o'<o+m+ls.length) /\
  bZ κ g w I ls ((c.toList.drop (o+m)).take ls.length)) /\
 j<=(κ (mI k)).bO/\((κ (mI k)).bO=j->g.h (mI k)=h)
def M9 (κ:Key->KE) (g:Gh) (w:World) (I:aA) (k:Key) (es:List LT) (ms:List M) (rows:List (List T)) (r j:Nat) (h:Value) (F:aA):Prop :=
 es≠[]/\rows.length<=bC/\r<rows.length /\
 (∃ b cap c el fz B1 B2,h = .slice (some ⟨b,0,none⟩) rows.length cap/\rows.length<=cap/\Block w b c el fz/\c.size=cap * es.length/\(∀ o,o<=c.size->¬ (fz.1<=o/\o<fz.2)) /\
  aK (fun vs ds bs=>ak w I es ms vs ds bs) es.length (rows.take r) c.toList B1 /\
  aK (fun vs ds bs=>ak w I es ms vs ds bs) es.length (rows.drop (r+1)) (c.toList.drop ((r+1) * es.length)) B2 /\
  fC w (b::(B1++B2))/\(∀ b' o',F b' o' ↔ (b'=b/\o'<c.size /\ ¬ (r * es.length<=o'/\o'<(r+1) * es.length))\/FB w (B1++B2) b' o') /\
  j<=(κ (iG k)).bO/\((κ (iG k)).bO=j->g.h (iG k) = .pointer (some ⟨b,r * es.length,none⟩)))
def Fx (κ:Key->KE) (g:Gh) (w:World) (I:aA) (k:Key):Ch->Prop
 | .box ls=>lF κ g w I ls (g.h k) (g.F k)
 | .Jk m j ls=>M8 κ g w I k m j ls (g.h k) (g.F k)
 | .row es ms rows=>aS w I es ms rows (g.h k) (g.F k)
 | .hol es ms rows r j=>M9 κ g w I k es ms rows r j (g.h k) (g.F k)
 | .fz es rows=>aH w I (.sl es) (g.h k) (.l rows)
 | .gone=>True
def gq (np:Nat):Key->Prop
 | i::_=>i<np
 | []=>False
structure Fr where
 nt:Nat
 np:Nat
 big:np<=1000000
 H:Key->Value
 D:aA
 A:aA
 B:aA
def Im (n:Fr) (I:aA):aA:=fun b o=>I b o\/n.A b o
structure RX (n:Fr) (κ:Key->KE) (g:Gh) (I:aA) (w:World):Prop where
 par : ∀ k,gq n.np k->Live (κ k).ch->g.h k=n.H k
 dq:g.D=n.D
 da : ∀ b o,g.D b o->n.A b o
 vC : ∀ k,Live (κ k).ch->aA.apart (g.F k) n.A
 XE : ∀ b o,n.A b o->∃ v,cellAt w b o=some v
 ia : ∀ b o,I b o->n.A b o->n.B b o
structure R (n:Fr) (σ:S) (g:Gh) (I:aA) (a:Act) (w:World):Prop where
 size:a.tmps.size=n.nt
 nd:a.defers=[]
 slots : ∀ t,jq σ.k g w I (σ.s t) (a.tmps.getD t undef)
 tL : ∀ k,Fx σ.k g w I k (σ.k k).ch
 sep : ∀ k k',Live (σ.k k).ch->Live (σ.k k').ch->k≠k'->aA.apart (g.F k) (g.F k')
 jh : ∀ k,Live (σ.k k).ch->aA.apart (g.F k) I
 xS : ∀ b o,I b o->∃ v,cellAt w b o=some v
 x:RX n σ.k g I w
def oC (I:aA) (b:Nat) (x y:Obj):Prop :=
 match x with
 | .cells c el fz=>∃ c',y = .cells c' el fz/\c'.size=c.size /\ ∀ o,I b o->c'[o]? = c[o]?
 | _=>y=x
structure Keeps (I:aA) (w w':World):Prop where
 size:w.heap.size<=w'.heap.size
 obj : ∀ b x,w.heap[b]? = some x->∃ y,w'.heap[b]? = some y/\oC I b x y
 os:w'.os=w.os
 output:w'.output=w.output
 tape:w'.tape=w.tape
theorem oC.refl (I:aA) (b:Nat) (x:Obj):oC I b x x:=by
 cases x <;> first | exact ⟨_,rfl,rfl,fun _ _=>rfl⟩ | rfl
theorem Keeps.refl (I:aA) (w:World):Keeps I w w:=⟨Nat.le_refl _,fun _ _ h=>⟨_,h,.refl _ _ _⟩,rfl,rfl,rfl⟩
theorem oC.trans {I J:aA} {b:Nat} {x y z:Obj} (hij : ∀ o,I b o->J b o) (h:oC I b x y) (h':oC J b y z):oC I b x z:=by
 cases x <;> simp only [oC] at h ⊢ <;> try (subst h; simpa [oC] using h')
 obtain ⟨c',rfl,h1,h2⟩:=h
 simp only [oC] at h'
 obtain ⟨c'',rfl,h3,h4⟩:=h'
 exact ⟨c'',rfl,h3.trans h1,fun o ho=>(h4 o (hij o ho)).trans (h2 o ho)⟩
theorem Keeps.trans {I J:aA} {w w' w'':World} (hij : ∀ b o,I b o->J b o) (h:Keeps I w w') (h':Keeps J w' w''):Keeps I w w'' :=
 ⟨Nat.le_trans h.size h'.size,fun b x hx=>by
  obtain ⟨y,hy,h1⟩:=h.obj b x hx
  obtain ⟨z,hz,h2⟩:=h'.obj b y hy
  exact ⟨z,hz,h1.trans (hij b) h2⟩,h'.os.trans h.os,h'.output.trans h.output,h'.tape.trans h.tape⟩
theorem Keeps.cell {I:aA} {w w':World} (h:Keeps I w w') {b o:Nat} (hi:I b o) (hv : ∃ v,cellAt w b o=some v):cellAt w' b o=cellAt w b o:=by
 obtain ⟨v,hv⟩:=hv
 unfold cellAt World.cell? at hv ⊢
 simp only at hv ⊢
 cases hx:w.heap[b]? with
 | none=>simp [hx] at hv
 | some x =>
  obtain ⟨y,hy,hk⟩:=h.obj b x hx
  cases x with
  | cells c el fz =>
   obtain ⟨c',rfl,-,h2⟩:=hk
   simp [hy,h2 o hi]
  | _=>simp [hx] at hv
theorem RX.step {n:Fr} {κ κ':Key->KE} {g g':Gh} {I I':aA} {w w':World} (h:RX n κ g I w) (hk:Keeps n.A w w') (hd:g'.D=g.D)
  (hl : ∀ k,Live (κ' k).ch->(gq n.np k->Live (κ k).ch/\g'.h k=g.h k\/g'.h k=n.H k)/\aA.apart (g'.F k) n.A) (hi : ∀ b o,I' b o->I b o \/ ¬ n.A b o):RX n κ' g' I' w' where
 par k hp hv:=by
  rcases (hl k hv).1 hp with ⟨h1,h2⟩ | h1
  ·rw [h2]; exact h.par k hp h1
  ·exact h1
 dq:=hd.trans h.dq
 da b o hb:=h.da b o (hd ▸ hb)
 vC k hv:=(hl k hv).2
 XE b o ha:=by
  obtain ⟨v,hv⟩:=h.XE b o ha
  exact ⟨v,(hk.cell ha ⟨v,hv⟩).trans hv⟩
 ia b o h1 h2:=(hi b o h1).elim (fun h3=>h.ia b o h3 h2) fun h3=>absurd h2 h3
structure fZ (κ:Key->KE) (g:Gh) (w:World) (I:aA) (κ':Key->KE) (g':Gh) (w':World) (I':aA):Prop where
 cv : ∀ k,(κ k).cv<=(κ' k).cv
 bO : ∀ k,(κ k).bO<=(κ' k).bO
 foot : ∀ k,(κ' k).cv=(κ k).cv->Live (κ k).ch->∀ b o,g.F k b o->((Live (κ' k).ch/\g'.F k b o)\/I' b o)/\cellAt w' b o=cellAt w b o
 head : ∀ k,(κ' k).bO=(κ k).bO->g'.h k=g.h k/\lC (κ' k).ch=lC (κ k).ch
 jh : ∀ b o,I b o->I' b o/\cellAt w' b o=cellAt w b o
 dd : ∀ b o,g.D b o->g'.D b o/\cellAt w' b o=cellAt w b o
section evo
variable {κ κ':Key->KE} {g g':Gh} {w w':World} {I I':aA}
theorem fZ.cur (e:fZ κ g w I κ' g' w' I') {ds:List BG} (ho:Old κ ds) (hc:Cur κ' ds):Cur κ ds:=fun d hd=>by
 have h1:=e.cv d.1; have h2:=ho d hd; have h3:=hc d hd; omega
theorem fZ.old (e:fZ κ g w I κ' g' w' I') {ds:List BG} (ho:Old κ ds):Old κ' ds:=fun d hd=>Nat.le_trans (ho d hd) (e.cv d.1)
theorem fZ.dep (e:fZ κ g w I κ' g' w' I') {ds:List BG} (ho:Old κ ds) (hc:Cur κ' ds) :
  ∀ b o,dw κ g I ds b o->dw κ' g' I' ds b o/\cellAt w' b o=cellAt w b o:=by
 intro b o h
 rcases h with h | ⟨d,hd,⟨hk,hf⟩ | ⟨hl,hf⟩⟩
 ·exact ⟨.inl (e.jh b o h).1,(e.jh b o h).2⟩
 ·exact ⟨.inr ⟨d,hd,.inl ⟨hk,(e.dd b o hf).1⟩⟩,(e.dd b o hf).2⟩
 ·have h1:=e.cur ho hc d hd
  obtain ⟨h2,h3⟩:=e.foot d.1 ((hc d hd).trans h1.symm) hl b o hf
  exact ⟨h2.elim (fun h=>.inr ⟨d,hd,.inr h⟩) .inl,h3⟩
theorem fZ.leaf (e:fZ κ g w I κ' g' w' I') {lt:LT} {v:Value} {d:T} (h:aH w I lt v d):aH w' I' lt v d :=
 aH.mono (fun b o h=>(e.jh b o h).1) (fun b o h=>(e.jh b o h).2) lt h
theorem fZ.lf (e:fZ κ g w I κ' g' w' I') {l:Leaf} {v:Value} (h:Dt κ g w I l v):Dt κ' g' w' I' l v:=by
 obtain ⟨hs,h⟩:=h
 refine ⟨hs,?_⟩
 cases hst:l.st with
 | sc=>simpa [hst] using h
 | nl=>simpa [hst] using h
 | sn ds =>
  simp only [hst] at h ⊢
  obtain ⟨h1,h2,h3⟩:=h
  exact ⟨h1,e.old h2,fun hc=>aH.mono (fun b o hb=>(e.dep h2 hc b o hb).1) (fun b o hb=>(e.dep h2 hc b o hb).2) _ (h3 (e.cur h2 hc))⟩
 | al k n =>
  simp only [hst] at h ⊢
  obtain ⟨h1,h2,h3⟩:=h
  have:=e.bO k
  refine ⟨h1,Nat.le_trans h2 this,fun hc=>?_⟩
  have h4:(κ k).bO=n:=by omega
  rw [(e.head k (hc.trans h4.symm)).1]; exact h3 h4
 | sb k n cv r off =>
  simp only [hst] at h ⊢
  obtain ⟨h1,h2,h3,h4⟩:=h
  refine ⟨h1,Nat.le_trans h2 (e.bO k),e.old h3,fun hc=>?_⟩
  obtain ⟨h5,h6⟩:=h4 (e.cur h3 hc)
  refine ⟨aH.mono (fun b o hb=>(e.dep h3 hc b o hb).1) (fun b o hb=>(e.dep h3 hc b o hb).2) _ h5,fun hi=>?_⟩
  have h7:(κ k).bO=n:=by have:=e.bO k; omega
  obtain ⟨b,o,h8,h9,h10⟩:=h6 h7
  obtain ⟨h11,h12⟩:=e.head k (hi.trans h7.symm)
  exact ⟨b,o,by rw [h11,h12]; exact h8,(e.dep h3 hc b o h10).2.trans h9,(e.dep h3 hc b o h10).1⟩
 | dead=>trivial
theorem fZ.UK (e:fZ κ g w I κ' g' w' I') : ∀ {ls:List Leaf} {vs:List Value},bZ κ g w I ls vs->bZ κ' g' w' I' ls vs
 | [],[],_=>trivial
 | _::_,_::_,h=>⟨e.lf h.1,e.UK h.2⟩
 | [],_::_,h=>h.elim
 | _::_,[],h=>h.elim
theorem fZ.PY (e:fZ κ g w I κ' g' w' I') {x:fA} {v:Value} (h:ql κ g w I x v):ql κ' g' w' I' x v:=by
 cases x with
 | one l=>exact e.lf h
 | agg ls=>obtain ⟨cs,h1,h2⟩:=h; exact ⟨cs,h1,e.UK h2⟩
 | ptr k n i off =>
  obtain ⟨h0,h1,h2⟩:=h
  have:=e.bO k
  refine ⟨h0,Nat.le_trans h1 this,fun hc=>?_⟩
  have h4:(κ k).bO=n:=by omega
  obtain ⟨h5,h6⟩:=e.head k (hc.trans h4.symm)
  rw [h5,h6]; exact h2 h4
 | rp ds aP row =>
  obtain ⟨h0,h1,h2⟩:=h
  refine ⟨h0,e.old h1,fun hc=>?_⟩
  obtain ⟨b,o,h3,h4⟩:=h2 (e.cur h1 hc)
  exact ⟨b,o,h3,dG.mono (fun b o hb=>(e.dep h1 hc b o hb).1) (fun b o hb=>(e.dep h1 hc b o hb).2) (fun b o hb=>(e.dep h1 hc b o hb).1) (fun b o hb=>(e.dep h1 hc b o hb).2) _ h4⟩
 | und=>exact h
 | junk=>trivial
 | ML _=>exact h.elim
 | fn _ _=>exact h.elim
theorem fZ.QE (e:fZ κ g w I κ' g' w' I') : ∀ {ls:List fA} {vs:List Value},og κ g w I ls vs->og κ' g' w' I' ls vs
 | [],[],_=>trivial
 | _::_,_::_,h=>⟨e.PY h.1,e.QE h.2⟩
 | [],_::_,h=>h.elim
 | _::_,[],h=>h.elim
theorem fZ.ent (e:fZ κ g w I κ' g' w' I') {x:fA} {v:Value} (h:jq κ g w I x v):jq κ' g' w' I' x v:=by
 cases x with
 | ML es=>obtain ⟨vs,h1,h2⟩:=h; exact ⟨vs,h1,e.QE h2⟩
 | fn f es=>obtain ⟨vs,h1,h2⟩:=h; exact ⟨vs,h1,e.QE h2⟩
 | one l=>exact e.PY (x:=.one l) h
 | agg l=>exact e.PY (x:=.agg l) h
 | ptr k n i off=>exact e.PY (x:=.ptr k n i off) h
 | rp ds aP row=>exact e.PY (x:=.rp ds aP row) h
 | und=>exact h
 | junk=>trivial
theorem fZ.refl:fZ κ g w I κ g w I :=
 ⟨fun _=>Nat.le_refl _,fun _=>Nat.le_refl _,fun _ _ hl _ _ hf=>⟨.inl ⟨hl,hf⟩,rfl⟩,fun _ _=>⟨rfl,rfl⟩,fun _ _ h=>⟨h,rfl⟩,fun _ _ h=>⟨h,rfl⟩⟩
theorem fZ.trans {ahv:Key->KE} {g'':Gh} {w'':World} {I'':aA} (e:fZ κ g w I κ' g' w' I') (e':fZ κ' g' w' I' ahv g'' w'' I'') :
  fZ κ g w I ahv g'' w'' I'' where
 cv k:=Nat.le_trans (e.cv k) (e'.cv k)
 bO k:=Nat.le_trans (e.bO k) (e'.bO k)
 foot k hc hl b o hf:=by
  have h1:=e.cv k; have h2:=e'.cv k
  obtain ⟨h3,h4⟩:=e.foot k (by omega) hl b o hf
  rcases h3 with ⟨h5,h6⟩ | h5
  ·obtain ⟨h7,h8⟩:=e'.foot k (by omega) h5 b o h6
   exact ⟨h7,h8.trans h4⟩
  ·exact ⟨.inr (e'.jh b o h5).1,(e'.jh b o h5).2.trans h4⟩
 head k hc:=by
  have h1:=e.bO k; have h2:=e'.bO k
  obtain ⟨h3,h4⟩:=e.head k (by omega)
  obtain ⟨h5,h6⟩:=e'.head k (by omega)
  exact ⟨h5.trans h3,h6.trans h4⟩
 jh b o h:=⟨(e'.jh b o (e.jh b o h).1).1,(e'.jh b o (e.jh b o h).1).2.trans (e.jh b o h).2⟩
 dd b o h:=⟨(e'.dd b o (e.dd b o h).1).1,(e'.dd b o (e.dd b o h).1).2.trans (e.dd b o h).2⟩
end evo
end Go.E

namespace Go.E
open Go
def Prog.wp (cf:FuncId->List Arg->R3 gu):Prog->S->Tr->(S->Tr->Prop)->Prop
 | .ret,σ,tr,Q=>Q σ tr
 | .fail,_,_,_=>False
 | .out,_,_,_=>True
 | .gK c p,σ,tr,Q=>c=true/\p.wp cf σ tr Q
 | .lim c p,σ,tr,Q=>c=true->p.wp cf σ tr Q
 | .br c p q,σ,tr,Q=>if c then p.wp cf σ tr Q else q.wp cf σ tr Q
 | .BI t k,σ,tr,Q=>(k (σ.s t)).wp cf σ { tr with rs:=t::tr.rs } Q
 | .kV t e p,σ,tr,Q=>p.wp cf (σ.kV t e) { tr with ws:=t::tr.ws } Q
 | .fG k c,σ,tr,Q=>(c (σ.k k)).wp cf σ { tr with rk:=k::tr.rk } Q
 | .bF k e p,σ,tr,Q=>p.wp cf (σ.bF k e) { tr with wk:=k::tr.wk } Q
 | .call f args k,σ,tr,Q=>match cf f args with
  | .ok r=>(k r).wp cf σ tr Q
  | .out=>True
  | .bad=>False
def zeroV:LT->Value->Prop
 | .sc (.int k),v=>v = .int k 0
 | .sc .bool,v=>v = .bool false
 | .sc .str,v=>v = .string .empty
 | .sc .any,v=>Single v
 | .sl _,v=>v = .slice none 0 0
def DK:List LT->List Value->Prop
 | [],[]=>True
 | l::ls,v::vs=>zeroV l v/\DK ls vs
 | _,_=>False
def abN (Γ:Ctx) (P:Program) (ti:TI):TK->TypeDesc->Prop
 | .sc (.int k),d=>d = .int k/\ti.aP=[.sc (.int k)]
 | .sc .bool,d=>d = .bool/\ti.aP=[.sc .bool]
 | .sc .str,d=>d = .string/\ti.aP=[.sc .str]
 | .sc .any,_=>False
 | .slice e,d=>d = .slice e /\ ∃ te,Γ.ty e=some te/\ti.aP=[.sl te.aP]/\te.aP≠[]
 | .struct fs,d=>∃ fields,d = .struct fields/\fs=fields.toList.map (fun f=>(f.offset,f.type)) /\
   ∀ f∈fields.toList,∃ i,P.info? f.type=some i/\i.size≠0
 | .array n e,d=>d = .array n e
 | .ptr e,d=>d = .pointer e/\ti.aP=[.sc .any]
 | .other,d=>(∀ fs,d ≠ .struct fs)/\(∀ n e,d ≠ .array n e)/\ti.aP=[.sc .any]
def Sy (P:Program):Nat->List Field->List LT->Prop
 | _,[],[]=>True
 | j,f::fs,lt::aP=>f.name ≠ "_" /\ f.offset=j/\(match lt with
   | .sc (.int k)=>P.underlying f.type=some (.int k)
   | .sc .bool=>P.underlying f.type=some .bool
   | .sc .str=>P.underlying f.type=some .string
   | _=>False)/\Sy P (j+1) fs aP
 | _,_,_=>False
def XT (P:Program) (t:TypeId) (aP:List LT):Prop :=
 ∃ fields,P.underlying t=some (.struct fields)/\P.stoodInHeld t=false/\P.eqGuardType P.depth t=false/\Sy P 0 fields.toList aP
structure uo (Γ:Ctx) (P:Program) (t:TypeId) (ti:TI):Prop where
 und : ∃ d,P.underlying t=some d/\abN Γ P ti ti.kind d
 flat:ti.flat=true->XT P t ti.aP
 info : ∃ i,P.info? t=some i/\i.size=ti.aP.length/\ti.bytes=i.bytes/\ti.aP.length<=i.bytes/\i.bytes<=24 * ti.aP.length /\ ∃ z,i.zero=some z/\DK ti.aP z.cells.toList
structure eT (Γ:Ctx) (P:Program):Prop where
 ty : ∀ t ti,Γ.ty t=some ti->uo Γ P t ti
 fn : ∀ f fn,Γ.fn f=some fn->P.funcs[f]? = some fn
 enter : ∀ f fn,Γ.fn f=some fn->fn.body.isNone=false/\(fn.name == "runtime.NumGoroutine")=false
 mixed:P.follows .mixedOrders=true
theorem DL {np nt:Nat} {o:Oper} {d:Nat} (hd:dI np nt o=true) (h:o.dst=some d):d<nt/\(np<=1000000->∀ r,¬ gq np ((d+2000000)::r)):=by
 unfold dI at hd
 rw [h] at hd
 have h2:d<nt:=by simpa [Nat.blt_eq] using hd
 exact ⟨h2,fun hb r hr=>by simp only [gq] at hr; omega⟩
def Goal (P:Program) (o:Oper) (a:Act) (w:World) (K:Act->World->Prop) (Q:Exit->Act->World->Prop):Prop :=
 o.wp P a w K Q\/(o.asks P a w/\LetsOut Q)
theorem xU {P:Program} {o:Oper} {a:Act} {w w':World} {K:Act->World->Prop} {Q:Exit->Act->World->Prop} {v:Value}
  (h:(execOp a.eval o).run P w = .ok (.value v) w') (hk:K (a.put o.dst v) w'):Goal P o a w K Q:=by
 refine .inl ?_
 unfold Oper.wp
 rw [h]
 exact hk
theorem aah {P:Program} {o:Oper} {a:Act} {w w':World} {K:Act->World->Prop} {Q:Exit->Act->World->Prop}
  (h:(execOp a.eval o).run P w = .ok .skip w') (hk:K (a.put o.dst undef) w'):Goal P o a w K Q:=by
 refine .inl ?_
 unfold Oper.wp
 rw [h]
 exact hk
section run
variable {Γ:Ctx} {P:Program} {w:World} {t:TypeId} {ti:TI}
theorem run_underlying {d:TypeDesc} (h:P.underlying t=some d):(underlying t).run P w = .ok d w:=by
 simp [underlying,h,go_sem]
end run
section slots
variable {n:Fr} {σ:S} {g:Gh} {I:aA} {a:Act} {w:World}
theorem abO (xs:Array Value) (i j:Nat) (v u:Value) (hi:i<xs.size):(xs.setIfInBounds i v).getD j u=if j=i then v else xs.getD j u:=by
 by_cases h:j=i
 ·subst h; simp [hi]
 ·simp [h,Array.getElem?_setIfInBounds_ne (Ne.symm h)]
theorem R.put (hR:R n σ g I a w) {d:Nat} (hd:d<n.nt) {e:fA} {v:Value} (he:jq σ.k g w I e v) :
  R n (σ.kV d e) g I (a.put (some d) v) w where
 size:=by simp [Act.put,hR.size]
 nd:=hR.nd
 slots t:=by
  have h1:(a.put (some d) v).tmps.getD t undef=if t=d then v else a.tmps.getD t undef:=abO _ _ _ _ _ (by rw [hR.size]; exact hd)
  rw [h1]
  by_cases h:t=d
  ·subst h
   simp only [S.kV,Nat.beq_refl,cond_true,if_true]
   exact he
  ·have h2:Nat.beq t d=false:=by cases hb:Nat.beq t d; rfl; exact absurd (Nat.eq_of_beq_eq_true hb) h
   simp only [S.kV,h2,cond_false,if_neg h]
   exact hR.slots t
 tL:=hR.tL
 sep:=hR.sep
 jh:=hR.jh
 xS:=hR.xS
 x:=hR.x
end slots
end Go.E

namespace Go.E
open Go
section
variable {Γ:Ctx} {P:Program} {cf:FuncId->List Arg->R3 gu}
variable {n:Fr} {σ:S} {g:Gh} {I:aA} {a:Act} {w:World}
def Post (P:Program) (n:Fr) (I:aA) (w:World) (Q:S->Tr->Prop) (K:Act->World->Prop):Prop :=
 ∀ σ' dB g' I' a' w',Q σ' dB->R n σ' g' I' a' w'->(∀ b o,I b o->I' b o)->Keeps (Im n I) w w'->K a' w'
theorem Na {v:Value} {l:Leaf} (κ:Key->KE) (h:BJ v=some l):Dt κ g w I l v:=by
 unfold BJ at h
 split at h
 ·cases h; exact ⟨⟨fun _ h=>(nomatch h),fun _ h=>(nomatch h)⟩,.bool,rfl,_,rfl,rfl⟩
 ·split at h
  ·rename_i hh; cases h; exact ⟨⟨fun _ h=>(nomatch h),fun _ h=>(nomatch h)⟩,.int _,rfl,_,rfl,rfl,hh⟩
  ·cases h
 ·split at h
  ·rename_i hh; cases h; exact ⟨⟨fun _ h=>(nomatch h),fun _ h=>(nomatch h)⟩,.str,rfl,_,rfl,rfl,hh⟩
  ·cases h
 ·cases h; exact ⟨⟨fun _ h=>(nomatch h),fun _ h=>(nomatch h)⟩,trivial,rfl,rfl⟩
 ·cases h
theorem G8 (κ:Key->KE) : ∀ {vs:List Value} {ls:List Leaf},vs.mapM BJ=some ls->bZ κ g w I ls vs
 | [],ls,h=>by simp at h; subst h; trivial
 | v::vs,ls,h=>by
  simp only [List.mapM_cons,Option.bind_eq_bind,Option.bind_eq_some_iff,Option.pure_def,Option.some.injEq] at h
  obtain ⟨l,h1,ls',h2,rfl⟩:=h
  exact ⟨Na κ h1,G8 κ h2⟩
theorem jk {x:Operand} {k:fA->Prog} {tr:Tr} {Q:S->Tr->Prop} (hR:R n σ g I a w) (h:(rd x k).wp cf σ tr Q) :
  ∃ e dB,jq σ.k g w I e (a.eval x)/\(k e).wp cf σ dB Q:=by
 unfold rd at h
 split at h
 ·exact ⟨_,_,hR.slots _,h⟩
 ·exact ⟨.junk,tr,trivial,h⟩
 ·unfold nP at h
  split at h
  ·rename_i ls hl; exact ⟨.agg ls,tr,⟨_,rfl,G8 _ hl⟩,h⟩
  ·exact h.elim
 ·unfold nP at h
  split at h
  ·rename_i l hl; exact ⟨.one l,tr,Na _ hl,h⟩
  ·exact h.elim
 ·rename_i f; exact ⟨.fn f [],tr,⟨#[],rfl,trivial⟩,h⟩
 ·exact h.elim
theorem dR {α:Type} {o:Option α} {k:α->Prog} {tr:Tr} {Q:S->Tr->Prop} (h:(nP o k).wp cf σ tr Q) :
  ∃ x,o=some x/\(k x).wp cf σ tr Q:=by
 unfold nP at h
 split at h
 ·exact ⟨_,rfl,h⟩
 ·exact h.elim
theorem nC {e:fA} {k:ST->T->Prog} {tr:Tr} {Q:S->Tr->Prop} {v:Value} (he:jq σ.k g w I e v) (h:(uj e k).wp cf σ tr Q) :
  ∃ s d,e = .one ⟨.sc,.sc s,d⟩/\Ka s v d/\(k s d).wp cf σ tr Q:=by
 unfold uj at h
 split at h
 ·obtain ⟨-,s',hs,hv⟩:=he
  cases hs
  exact ⟨_,_,rfl,hv,h⟩
 ·exact h.elim
theorem BN {e:fA} {k:Leaf->Prog} {tr:Tr} {Q:S->Tr->Prop} {v:Value} (he:jq σ.k g w I e v) (h:(R9 e k).wp cf σ tr Q) :
  ∃ l,e = .one l/\Dt σ.k g w I l v/\(k l).wp cf σ tr Q:=by
 unfold R9 at h
 split at h
 ·exact ⟨_,rfl,he,h⟩
 ·exact h.elim
theorem jD {o:Oper} {e:fA} {v:Value} {tr:Tr} {Q:S->Tr->Prop} {K:Act->World->Prop} {Qm:Exit->Act->World->Prop}
  (hd:dI n.np n.nt o=true) (hR:R n σ g I a w) (hK:Post P n I w Q K)
  (hrun:(execOp a.eval o).run P w = .ok (.value v) w) (he:jq σ.k g w I e v) (h:(put o.dst e).wp cf σ tr Q):Goal P o a w K Qm:=by
 refine xU hrun ?_
 unfold put at h
 cases hds:o.dst with
 | none =>
  simp only [hds] at h ⊢
  exact hK _ _ g I _ _ h hR (fun _ _ h=>h) (Keeps.refl _ _)
 | some d =>
  simp only [hds] at h ⊢
  exact hK _ _ g I _ _ h (hR.put (DL hd hds).1 he) (fun _ _ h=>h) (Keeps.refl _ _)
theorem lG {o:Oper} {s:ST} {d:T} {v:Value} {tr:Tr} {Q:S->Tr->Prop} {K:Act->World->Prop} {Qm:Exit->Act->World->Prop}
  (hd:dI n.np n.nt o=true) (hR:R n σ g I a w) (hK:Post P n I w Q K)
  (hrun:(execOp a.eval o).run P w = .ok (.value v) w) (he:Ka s v d) (h:(oz o.dst s d).wp cf σ tr Q):Goal P o a w K Qm :=
 jD hd hR hK hrun (e:=.one ⟨.sc,.sc s,d⟩) ⟨he.single,s,rfl,he⟩ h
end
end Go.E

namespace Go.E
open Go
theorem Nb (k:IntKind) (x:Int):k.min<=k.wrap x/\k.wrap x<=k.max:=by
 have e8:(2:Int) ^ 8=256:=by decide
 have e7:(2:Int) ^ 7=128:=by decide
 have e16:(2:Int) ^ 16=65536:=by decide
 have e15:(2:Int) ^ 15=32768:=by decide
 have e32:(2:Int) ^ 32=4294967296:=by decide
 have e31:(2:Int) ^ 31=2147483648:=by decide
 have e64:(2:Int) ^ 64=18446744073709551616:=by decide
 have e63:(2:Int) ^ 63=9223372036854775808:=by decide
 cases k <;> simp only [IntKind.wrap,IntKind.min,IntKind.max,IntKind.bits,IntKind.signed,Bool.true_and,Bool.false_and,if_true,Bool.false_eq_true,if_false,Nat.reduceSub,e8,e7,e16,e15,e32,e31,e64,e63,decide_eq_true_eq] <;> (try split) <;> omega
theorem vZ {k:IntKind} {x:Int} : Ka (.int k) (.int k (k.wrap x)) (.i (k.wrap x)):=⟨_,rfl,rfl,(Nb k x).1,(Nb k x).2⟩
theorem lZ {b:Bool} : Ka .bool (.bool b) (.b b):=⟨_,rfl,rfl⟩
theorem G9 (k:IntKind):k.min<=0/\0<=k.max:=by
 cases k <;> simp [IntKind.min,IntKind.max,IntKind.bits,IntKind.signed]
theorem Nc {k:IntKind} {x y:Int} (h:k.min<=x/\x<=k.max):k.min<=x.tmod y/\x.tmod y<=k.max:=by
 have h0:=G9 k
 have h1:(x.tmod y).natAbs<=x.natAbs:=by rw [Int.natAbs_tmod]; exact Nat.mod_le _ _
 rcases Int.le_total 0 x with hx | hx
 ·have h2:=Int.tmod_nonneg y hx
  omega
 ·have h3:=Int.tmod_nonneg y (show 0<=-x by omega)
  rw [Int.neg_tmod] at h3
  omega
theorem XU {k:IntKind} {x:Int} {m:Nat} (h:k.min<=x/\x<=k.max):k.min<=x.fdiv (2 ^ m)/\x.fdiv (2 ^ m)<=k.max:=by
 have h0:=G9 k
 have hp:(0:Int)<2 ^ m:=Int.pow_pos (by decide)
 rw [Int.fdiv_eq_ediv_of_nonneg _ (by omega)]
 rcases Int.le_total 0 x with hx | hx
 ·have h2:=Int.ediv_nonneg hx (show (0:Int)<=2 ^ m by omega)
  have h3:=Int.ediv_le_self (2 ^ m) hx
  omega
 ·have h2:x<=x / 2 ^ m:=by
   rw [Int.le_ediv_iff_mul_le hp]
   have h1:(0:Int)<=2 ^ m-1:=by omega
   have:=Int.mul_nonneg (show 0<=-x by omega) h1
   have e : -x * (2 ^ m-1)=x-x * 2 ^ m:=by rw [Int.mul_sub,Int.neg_mul]; omega
   omega
  have h3:x / 2 ^ m<=0:=by
   have:=Int.ediv_le_ediv hp hx
   simpa using this
  omega
section
variable {P:Program} {w:World} {ρ:Operand->Value} {o:Oper}
theorem run_move {x:Operand} (hop:o.op = .move x\/o.op = .assign x):(execOp ρ o).run P w = .ok (.value (ρ x)) w:=by
 rcases hop with hop | hop <;> simp [execOp,hop,go_sem]
theorem abP {c x y:Operand} {b:Bool} (hop:o.op = .pick c x y) (hb:ρ c = .bool b) :
  (execOp ρ o).run P w = .ok (.value (if b=true then ρ x else ρ y)) w:=by
 simp [execOp,hop,hb,asBool,go_sem]
theorem Sz {x:Operand} {b o':Nat} (hop:o.op = .nilCheck x) (hv:ρ x = .pointer (some ⟨b,o',none⟩)) :
  (execOp ρ o).run P w = .ok (.value (ρ x)) w:=by
 simp [execOp,hop,hv,go_sem]
theorem UL {x:Operand} {i:Nat} {vs:Array Value} {v:Value} (hop:o.op = .extract x i) (hv:ρ x = .tuple vs) (h:vs[i]? = some v) :
  (execOp ρ o).run P w = .ok (.value v) w:=by
 simp [execOp,hop,hv,Instr.extract,h,go_sem]
end
section
variable {Γ:Ctx} {P:Program} {cf:FuncId->List Arg->R3 gu}
variable {n:Fr} {σ:S} {g:Gh} {I:aA} {a:Act} {w:World}
theorem rG (κ:Key->KE) : ∀ {aP:List LT} {ls:List Leaf} {vs:List Value},bZ κ g w I ls vs->bZ κ g w I (oM aP ls) vs
 | [],ls,vs,h=>by unfold oM; exact h
 | lt::aP,[],vs,h=>by unfold oM; exact h
 | lt::aP,l::ls,[],h=>h.elim
 | lt::aP,l::ls,v::vs,h=>by
  unfold oM
  refine ⟨?_,rG κ h.2⟩
  split
  ·rename_i e1
   obtain ⟨h1,h2⟩:=h.1
   refine ⟨h1,?_⟩
   simp only [e1] at h2 ⊢
   exact ⟨trivial,h2.2⟩
  ·exact h.1
theorem SA {κ:Key->KE} {ls:List Leaf} {v:Value} (h:bZ κ g w I ls [v]):jq κ g w I (Jo ls) v:=by
 unfold Jo
 split
 ·exact h.1
 ·trivial
theorem Nf {κ:Key->KE} {ls:List Leaf} {cs:Array Value} (h:bZ κ g w I ls cs.toList):jq κ g w I (Dx true ls) (.agg cs):=⟨cs,rfl,h⟩
theorem Jt {κ:Key->KE} {ls:List Leaf} {v:Value} (h:bZ κ g w I ls [v]):jq κ g w I (Dx false ls) v:=by
 unfold Dx
 simp only [cond_false]
 split
 ·exact h.1
 ·trivial
theorem fM {t:TypeId} {k:TI->Prog} {tr:Tr} {Q:S->Tr->Prop} (hΓ:eT Γ P) (h:(tN Γ t k).wp cf σ tr Q) :
  ∃ ti,Γ.ty t=some ti/\uo Γ P t ti/\(k ti).wp cf σ tr Q:=by
 obtain ⟨ti,h1,h2⟩:=dR h
 exact ⟨ti,h1,hΓ.ty t ti h1,h2⟩
variable {o:Oper} {f:FuncId} {tr:Tr} {Q:S->Tr->Prop} {K:Act->World->Prop} {Qm:Exit->Act->World->Prop}
theorem SB {aP:List LT} {κ:Key->KE} {e:fA} {v:Value} (h:jq κ g w I e v):jq κ g w I (Jp aP e) v:=by
 unfold Jp
 split
 ·exact SA (rG _ ⟨h,trivial⟩)
 ·obtain ⟨cs,h3,h4⟩:=h
  exact ⟨cs,h3,rG _ h4⟩
 ·exact h
theorem Y9 {s:ST} {d:T} {v:Value} (h:Ka s v d):M0 s d=d:=by
 cases s <;> first | rfl | skip
 obtain ⟨b,-,rfl⟩:=h
 rfl
theorem ad8 (hd:dI n.np n.nt o=true) (hR:R n σ g I a w) (hK:Post P n I w Q K) {c x y:Operand} (hop:o.op = .pick c x y)
  (h:(bD Γ f o).wp cf σ tr Q):Goal P o a w K Qm:=by
 simp only [bD,hop] at h
 obtain ⟨ec,t1,hc,h⟩:=jk hR h
 obtain ⟨ex,t2,hx,h⟩:=jk hR h
 obtain ⟨ey,t3,hy,h⟩:=jk hR h
 obtain ⟨s,d,rfl,hv,h⟩:=nC hc h
 split at h
 ·obtain ⟨b,hb,rfl⟩:=hv
  have hrun:=abP (P:=P) (w:=w) (ρ:=a.eval) hop hb
  simp only [Prog.wp,T.bool] at h
  cases b
  ·simp only [Bool.false_eq_true,if_false] at h hrun
   obtain ⟨s,d,rfl,hv,h⟩:=nC hy h
   rw [Y9 hv] at h
   exact lG hd hR hK hrun hv h
  ·simp only [if_true] at h hrun
   obtain ⟨s,d,rfl,hv,h⟩:=nC hx h
   rw [Y9 hv] at h
   exact lG hd hR hK hrun hv h
 ·exact h.elim
theorem rH {ds:List BG} {p:Prog} : ∀ {tr:Tr},(zU ds p).wp cf σ tr Q->Cur σ.k ds /\ ∃ dB,p.wp cf σ dB Q:=by
 induction ds with
 | nil=>intro tr h; exact ⟨fun _ h=>(nomatch h),tr,h⟩
 | cons d ds ih =>
  intro tr h
  obtain ⟨k,m⟩:=d
  obtain ⟨h1,h2⟩:=h
  obtain ⟨h3,h4⟩:=ih h2
  refine ⟨fun x hx=>?_,h4⟩
  rcases List.mem_cons.1 hx with rfl | hx
  ·exact Nat.eq_of_beq_eq_true h1
  ·exact h3 x hx
theorem UM (hd:dI n.np n.nt o=true) (hR:R n σ g I a w) (hK:Post P n I w Q K) {x:Operand} (hop:o.op = .nilCheck x)
  (h:(bD Γ f o).wp cf σ tr Q):Goal P o a w K Qm:=by
 simp only [bD,hop] at h
 obtain ⟨e,t1,he,h⟩:=jk hR h
 have key : ∀ b o',a.eval x = .pointer (some ⟨b,o',none⟩)->(execOp a.eval o).run P w = .ok (.value (a.eval x)) w:=fun b o' hv=>Sz hop hv
 split at h
 ·obtain ⟨h1,h2⟩:=h
  obtain ⟨b,o',hv,-⟩:=he.2.2 (Nat.eq_of_beq_eq_true h1)
  exact jD hd hR hK (key b o' hv) he h2
 ·obtain ⟨h1,t2,h2⟩:=rH h
  obtain ⟨b,o',hv,-⟩:=he.2.2 h1
  exact jD hd hR hK (key b o' hv) he h2
 ·exact h.elim
theorem XV (hd:dI n.np n.nt o=true) (hR:R n σ g I a w) (hK:Post P n I w Q K) {x:Operand} {i:Nat} (hop:o.op = .extract x i)
  (h:(bD Γ f o).wp cf σ tr Q):Goal P o a w K Qm:=by
 simp only [bD,hop] at h
 obtain ⟨e,t1,he,h⟩:=jk hR h
 split at h
 ·rename_i es
  obtain ⟨vs,hv,hs⟩:=he
  obtain ⟨x',hx,h⟩:=dR h
  have key : ∀ (es:List fA) (vs:List Value) (i:Nat),og σ.k g w I es vs->es[i]? = some x'->∃ v,vs[i]? = some v/\ql σ.k g w I x' v:=by
   intro es
   induction es with
   | nil=>intro vs i _ h; simp at h
   | cons e es ih =>
    intro vs i h1 h2
    cases vs with
    | nil=>exact h1.elim
    | cons v vs =>
     cases i with
     | zero=>simp at h2; subst h2; exact ⟨v,rfl,h1.1⟩
     | succ i=>simpa using ih vs i h1.2 (by simpa using h2)
  obtain ⟨v,hv1,hv2⟩:=key es vs.toList i hs hx
  have ajk:vs[i]? = some v:=by simpa using hv1
  have hrun:=UL (P:=P) (w:=w) (ρ:=a.eval) hop hv ajk
  refine jD hd hR hK hrun (e:=x') ?_ h
  cases x' <;> first | exact hv2 | exact hv2.elim
 ·exact h.elim
end
end Go.E

namespace Go.E
open Go
section
variable {P:Program} {w:World} {ρ:Operand->Value} {o:Oper}
theorem aai {op:BinOp} {t:TypeId} {x y:Operand} {k k':IntKind} {i j:Int} : (eqGuard op t x y (.int k i) (.int k' j)).run P w = .ok () w:=by
 cases op <;> simp [eqGuard,go_sem]
theorem aaj {op:BinOp} {t:TypeId} {x y:Operand} {i j:ByteArray} : (eqGuard op t x y (.string i) (.string j)).run P w = .ok () w:=by
 cases op <;> simp [eqGuard,go_sem]
theorem XW {op:BinOp} {t:TypeId} {x y:Operand} {i j:Bool} : (eqGuard op t x y (.bool i) (.bool j)).run P w = .ok () w:=by
 cases op <;> simp [eqGuard,go_sem]
theorem rM {op:BinOp} {t t':TypeId} {x y:Operand} {v:Value} (hop:o.op = .binOp op t x y t')
  (hg:(eqGuard op t x y (ρ x) (ρ y)).run P w = .ok () w) (hv:(binOp op t (ρ x) (ρ y)).run P w = .ok v w) :
  (execOp ρ o).run P w = .ok (.value v) w:=by
 simp only [execOp,hop]
 rw [Sem.run_bind,Sem.run_bind,hg]
 simp [hv]
theorem Ng {op:UnOp} {t:TypeId} {x:Operand} {v:Value} (hop:o.op = .unOp op t x) (hv:(Op.unary op (ρ x)).run P w = .ok v w) :
  (execOp ρ o).run P w = .ok (.value v) w:=by
 simp only [execOp,hop]
 rw [Sem.run_bind,hv]
 simp
end
section
variable {Γ:Ctx} {P:Program} {cf:FuncId->List Arg->R3 gu}
variable {n:Fr} {σ:S} {g:Gh} {I:aA} {a:Act} {w:World}
variable {o:Oper} {f:FuncId} {tr:Tr} {Q:S->Tr->Prop} {K:Act->World->Prop} {Qm:Exit->Act->World->Prop}
theorem aak {op:BinOp} {k:IntKind} {x y:Int} {C:ST->T->Prog} (t:TypeId) (hx:k.min<=x/\x<=k.max)
  (h:(XK op k x y C).wp cf σ tr Q) (h1:op ≠ .shl) (h2:op ≠ .shr) :
  ∃ s d v,(binOp op t (.int k x) (.int k y)).run P w = .ok v w/\Ka s v d/\(C s d).wp cf σ tr Q:=by
 cases op <;> simp only [XK] at h <;> try (exact h.elim)
 case add=>exact ⟨_,_,_,by simp only [binOp,ne_eq,not_true_eq_false,if_false,Op.intArith]; rfl,vZ,h⟩
 case sub=>exact ⟨_,_,_,by simp only [binOp,ne_eq,not_true_eq_false,if_false,Op.intArith]; rfl,vZ,h⟩
 case mul=>exact ⟨_,_,_,by simp only [binOp,ne_eq,not_true_eq_false,if_false,Op.intArith]; rfl,vZ,h⟩
 case quo =>
  obtain ⟨h0,h⟩:=h
  have hy:y≠0:=by simpa using h0
  exact ⟨_,_,_,by simp only [binOp,ne_eq,not_true_eq_false,if_false,Op.intDiv,hy]; rfl,vZ,h⟩
 case rem =>
  obtain ⟨h0,h⟩:=h
  have hy:y≠0:=by simpa using h0
  exact ⟨.int k,.i (x.tmod y),.int k (x.tmod y),by simp only [binOp,ne_eq,not_true_eq_false,if_false,Op.intDiv,hy]; rfl,⟨_,rfl,rfl,(Nc hx).1,(Nc hx).2⟩,h⟩
 case and=>exact ⟨_,_,_,by simp only [binOp,ne_eq,not_true_eq_false,if_false,Op.intBits]; rfl,vZ,h⟩
 case or=>exact ⟨_,_,_,by simp only [binOp,ne_eq,not_true_eq_false,if_false,Op.intBits]; rfl,vZ,h⟩
 case xor=>exact ⟨_,_,_,by simp only [binOp,ne_eq,not_true_eq_false,if_false,Op.intBits]; rfl,vZ,h⟩
 case andNot=>exact ⟨_,_,_,by simp only [binOp,ne_eq,not_true_eq_false,if_false,Op.intBits]; rfl,vZ,h⟩
 case eql=>exact ⟨_,_,_,by simp only [binOp,ne_eq,not_true_eq_false,if_false,Op.intCmp]; rfl,lZ,h⟩
 case neq=>exact ⟨_,_,_,by simp only [binOp,ne_eq,not_true_eq_false,if_false,Op.intCmp]; rfl,lZ,h⟩
 case lss=>exact ⟨_,_,_,by simp only [binOp,ne_eq,not_true_eq_false,if_false,Op.intCmp]; rfl,lZ,h⟩
 case leq=>exact ⟨_,_,_,by simp only [binOp,ne_eq,not_true_eq_false,if_false,Op.intCmp]; rfl,lZ,h⟩
 case gtr=>exact ⟨_,_,_,by simp only [binOp,ne_eq,not_true_eq_false,if_false,Op.intCmp]; rfl,lZ,h⟩
 case geq=>exact ⟨_,_,_,by simp only [binOp,ne_eq,not_true_eq_false,if_false,Op.intCmp]; rfl,lZ,h⟩
theorem SC:IntKind.i64.max=9223372036854775807:=by decide
theorem aal {op:BinOp} {x y:ByteArray} {C:ST->T->Prog} (t:TypeId)
  (h:(XL op x y C).wp cf σ tr Q) :
  ∃ s d v,(binOp op t (.string x) (.string y)).run P w = .ok v w/\Ka s v d/\(C s d).wp cf σ tr Q:=by
 cases op <;> simp only [XL] at h <;> try (exact h.elim)
 case add =>
  obtain ⟨h0,h⟩:=h
  have h1:x.size+y.size<9223372036854775808:=by simpa using h0
  have h2 : ¬ (((x.size+y.size:Nat):Int) > IntKind.i64.max):=by rw [SC]; omega
  exact ⟨.str,_,.string (x++y),by simp only [binOp,Op.stringOp,h2,if_false]; rfl,⟨_,rfl,rfl,by rw [ByteArray.size_append]; exact h1⟩,h⟩
 case eql=>exact ⟨_,_,_,by simp only [binOp,Op.stringOp]; rfl,lZ,h⟩
 case neq=>exact ⟨_,_,_,by simp only [binOp,Op.stringOp]; rfl,lZ,h⟩
 case lss=>exact ⟨_,_,_,by simp only [binOp,Op.stringOp]; rfl,lZ,h⟩
 case leq=>exact ⟨_,_,_,by simp only [binOp,Op.stringOp]; rfl,lZ,h⟩
 case gtr=>exact ⟨_,_,_,by simp only [binOp,Op.stringOp]; rfl,lZ,h⟩
 case geq=>exact ⟨_,_,_,by simp only [binOp,Op.stringOp]; rfl,lZ,h⟩
end
end Go.E

namespace Go.E
open Go
section
variable {P:Program} {w:World} {ρ:Operand->Value} {o:Oper}
theorem UN {t:TypeId} {cs:Array Value} {off:Nat} {v:Value} {d:TypeDesc} (hu:P.underlying t=some d) (hd:(∀ fs,d ≠ .struct fs) /\ ∀ n e,d ≠ .array n e)
  (hv:cs[off]? = some v):(part t cs off).run P w = .ok v w:=by
 have h1:(isAgg t).run P w = .ok false w:=by
  simp only [isAgg,Sem.run_bind,run_underlying hu,Result.andThen_ok]
  cases d <;> first | rfl | exact absurd rfl (hd.1 _) | exact absurd rfl (hd.2 _ _)
 simp [part,h1,hv]
end
section
variable {Γ:Ctx} {P:Program} {cf:FuncId->List Arg->R3 gu}
variable {n:Fr} {σ:S} {g:Gh} {I:aA} {a:Act} {w:World}
variable {o:Oper} {f:FuncId} {tr:Tr} {Q:S->Tr->Prop} {K:Act->World->Prop} {Qm:Exit->Act->World->Prop}
theorem ad9 {s:ST} {x y:T} {u v:Value} {b:Bool} {t:TypeId} {d:Nat} (hty:match LT.sc s with
   | .sc (.int k)=>P.underlying t=some (.int k)
   | .sc .bool=>P.underlying t=some .bool
   | .sc .str=>P.underlying t=some .string
   | _=>False) (hu:Ka s u x) (hv:Ka s v y) (h:abE s x y=some b) :
  (Op.equalIn (d+1) t u v).run P w = .ok b w /\ ∃ dd,P.underlying t=some dd/\(∀ fs,dd ≠ .struct fs) /\ ∀ n e,dd ≠ .array n e:=by
 cases s with
 | int k =>
  obtain ⟨i,rfl,rfl,-⟩:=hu
  obtain ⟨i',rfl,rfl,-⟩:=hv
  simp only [abE,T.int,Option.some.injEq] at h
  subst h
  exact ⟨run_equalIn_int w d _ _ _ _ _ hty,_,hty,fun _ h=>(nomatch h),fun _ _ h=>(nomatch h)⟩
 | bool =>
  obtain ⟨i,rfl,rfl⟩:=hu
  obtain ⟨i',rfl,rfl⟩:=hv
  simp only [abE,T.bool,Option.some.injEq] at h
  subst h
  exact ⟨run_equalIn_bool' w d _ _ _ hty,_,hty,fun _ h=>(nomatch h),fun _ _ h=>(nomatch h)⟩
 | str =>
  obtain ⟨i,rfl,rfl,-⟩:=hu
  obtain ⟨i',rfl,rfl,-⟩:=hv
  simp only [abE,T.str,Option.some.injEq] at h
  subst h
  exact ⟨run_equalIn_string w d _ _ _ hty,_,hty,fun _ h=>(nomatch h),fun _ _ h=>(nomatch h)⟩
 | any=>exact hty.elim
theorem Kc {κ:Key->KE} {d:Nat} {xs ys:Array Value} : ∀ (fs:List Field) (aP:List LT) (j:Nat) (ls rs:List Leaf) (r:Bool),Sy P j fs aP ->
  bZ κ g w I ls (xs.toList.drop j)->bZ κ g w I rs (ys.toList.drop j)->xK aP ls rs=some r ->
  (Op.eqFields (d+1) xs ys fs).run P w = .ok r w
 | [],[],j,ls,rs,r,hf,hl,hr,he=>by
  cases ls <;> cases rs <;> simp [xK] at he
  subst he; simp [Op.eqFields]
 | [],_::_,j,ls,rs,r,hf,hl,hr,he=>hf.elim
 | f::fs,[],j,ls,rs,r,hf,hl,hr,he=>hf.elim
 | f::fs,lt::aP,j,ls,rs,r,hf,hl,hr,he=>by
  unfold xK at he
  split at he
  ·contradiction
  ·rename_i c aea a' x ls' b' y rs' e1
   cases e1
   split at he
   ·rename_i hab
    obtain ⟨rfl,rfl⟩:=hab
    split at he
    ·rename_i b r' h1 h2
     cases he
     obtain ⟨hname,hoff,hty,hf⟩:=hf
     cases hx:xs.toList.drop j with
     | nil=>rw [hx] at hl; exact hl.elim
     | cons u us =>
      cases hy:ys.toList.drop j with
      | nil=>rw [hy] at hr; exact hr.elim
      | cons v vs =>
       rw [hx] at hl; rw [hy] at hr
       have hx1:xs[j]? = some u:=by
        have:(xs.toList.drop j)[0]? = some u:=by rw [hx]; rfl
        simpa using this
       have hy1:ys[j]? = some v:=by
        have:(ys.toList.drop j)[0]? = some v:=by rw [hy]; rfl
        simpa using this
       have hx2:xs.toList.drop (j+1)=us:=by rw [<-List.drop_drop,hx]; rfl
       have hy2:ys.toList.drop (j+1)=vs:=by rw [<-List.drop_drop,hy]; rfl
       obtain ⟨-,s1',e1,hu⟩:=hl.1
       obtain ⟨-,s2',e2,hv⟩:=hr.1
       cases e1; cases e2
       obtain ⟨hb,dd,hu',hdd⟩:=ad9 (P:=P) (w:=w) (d:=d) hty hu hv h1
       have ih:=Kc (d:=d) (xs:=xs) (ys:=ys) fs aP (j+1) ls' rs' r' hf (by rw [hx2]; exact hl.2) (by rw [hy2]; exact hr.2) h2
       simp only [Op.eqFields,ne_eq,hname,not_false_eq_true,if_true,Sem.run_bind,hoff,UN hu' hdd hx1,UN hu' hdd hy1,Result.andThen_ok,hb]
       cases b
       ·simp
       ·simpa using ih
    ·cases he
   ·cases he
  ·cases he
theorem QF {κ:Key->KE} {t:TypeId} {ti:TI} {ls rs:List Leaf} {r:Bool} {xs ys:Array Value} (hf:XT P t ti.aP) (hl:bZ κ g w I ls xs.toList) (hr:bZ κ g w I rs ys.toList)
  (he:xK ti.aP ls rs=some r):(Op.equal t (.agg xs) (.agg ys)).run P w = .ok r w /\
   ∀ op x y,(eqGuard op t x y (.agg xs) (.agg ys)).run P w = .ok () w:=by
 obtain ⟨fields,h1,h2,h3,h4⟩:=hf
 constructor
 ·have hfo:P.fieldsOf t=fields:=by simp [Program.fieldsOf,h1]
  show (Op.equalIn (9999+1) t (.agg xs) (.agg ys)).run P w = .ok r w
  rw [run_equalIn_struct (P:=P) w 9999 t xs ys (by rw [hfo]; exact h1) h2,hfo]
  exact Kc (d:=9998) fields.toList ti.aP 0 ls rs r h4 (by simpa using hl) (by simpa using hr) he
 ·intro op x y
  cases op <;> simp [eqGuard,h3,go_sem]
theorem abQ (hΓ:eT Γ P) (hd:dI n.np n.nt o=true) (hR:R n σ g I a w) (hK:Post P n I w Q K) {op:BinOp} {t t':TypeId} {x y:Operand} (hop:o.op = .binOp op t x y t')
  (h:(bD Γ f o).wp cf σ tr Q):Goal P o a w K Qm:=by
 simp only [bD,hop] at h
 obtain ⟨ti,-,hty,h⟩:=fM hΓ h
 obtain ⟨ex,t1,hx,h⟩:=jk hR h
 obtain ⟨ey,t2,hy,h⟩:=jk hR h
 unfold ahr at h
 split at h
 ·skip
  rename_i k u k' v _
  have hu:Ka (.int k) (a.eval x) u:=by obtain ⟨-,s,e,hu⟩:=hx; cases e; exact hu
  have hv:Ka (.int k') (a.eval y) v:=by obtain ⟨-,s,e,hu⟩:=hy; cases e; exact hu
  obtain ⟨i,hi,rfl,hi1⟩:=hu
  obtain ⟨j,hj,rfl,hj1⟩:=hv
  have hgd:(eqGuard op t x y (a.eval x) (a.eval y)).run P w = .ok () w:=by rw [hi,hj]; exact aai
  split at h
  ·obtain ⟨h0,h⟩:=h
   have h1 : ¬ j<0:=by have:=of_decide_eq_true h0; simp only [T.int] at this; omega
   refine lG hd hR hK (rM hop hgd (v:=.int k (k.wrap (i * 2 ^ (min j.toNat k.bits)))) ?_) vZ h
   rw [hi,hj]; simp [binOp,Op.shift,h1]
  ·obtain ⟨h0,h⟩:=h
   have h1 : ¬ j<0:=by have:=of_decide_eq_true h0; simp only [T.int] at this; omega
   refine lG hd hR hK (s:=.int k) (rM hop hgd (v:=.int k (i.fdiv (2 ^ (min j.toNat k.bits)))) ?_) ⟨_,rfl,rfl,XU hi1⟩ h
   rw [hi,hj]; simp [binOp,Op.shift,h1]
  ·rename_i hs1 hs2
   split at h
   ·rename_i hk
    subst hk
    obtain ⟨s,d,v,h1,h2,h3⟩:=aak (P:=P) (w:=w) t hi1 h (fun e=>hs1 e) (fun e=>hs2 e)
    exact lG hd hR hK (rM hop hgd (by rw [hi,hj]; exact h1)) h2 h3
   ·exact h.elim
 ·obtain ⟨-,s,e,hu⟩:=hx
  cases e
  obtain ⟨-,s,e,hv⟩:=hy
  cases e
  obtain ⟨i,hi,rfl,hi1⟩:=hu
  obtain ⟨j,hj,rfl,hj1⟩:=hv
  have hgd:(eqGuard op t x y (a.eval x) (a.eval y)).run P w = .ok () w:=by rw [hi,hj]; exact aaj
  obtain ⟨s,d,v,h1,h2,h3⟩:=aal (P:=P) (w:=w) t h
  exact lG hd hR hK (rM hop hgd (by rw [hi,hj]; exact h1)) h2 h3
 ·obtain ⟨-,s,e,hu⟩:=hx
  cases e
  obtain ⟨-,s,e,hv⟩:=hy
  cases e
  obtain ⟨i,hi,rfl⟩:=hu
  obtain ⟨j,hj,rfl⟩:=hv
  have hgd:(eqGuard op t x y (a.eval x) (a.eval y)).run P w = .ok () w:=by rw [hi,hj]; exact XW
  cases hb:Sc ti.kind with
  | false=>simp only [hb,cond_false] at h; exact h.elim
  | true =>
   simp only [hb,cond_true] at h
   have hub:P.underlying t=some .bool:=by
    obtain ⟨d,h1,h2⟩:=hty.und
    unfold Sc at hb
    split at hb
    ·rename_i hk; rw [hk] at h2; rw [h1,h2.1]
    ·cases hb
   have heq:(Op.equal t (.bool i) (.bool j)).run P w = .ok (i==j) w:=run_equalIn_bool' w 9999 t i j hub
   split at h
   ·exact lG hd hR hK (rM hop hgd (v:=.bool (i==j)) (by rw [hi,hj]; simp [binOp,heq])) lZ h
   ·exact lG hd hR hK (rM hop hgd (v:=.bool (!(i==j))) (by rw [hi,hj]; simp [binOp,heq])) lZ h
   ·exact h.elim
 ·rename_i ls rs
  obtain ⟨xs,hxs,hl⟩:=hx
  obtain ⟨ys,hys,hr⟩:=hy
  cases hb:ti.flat with
  | false=>simp only [hb,cond_false] at h; exact h.elim
  | true =>
   simp only [hb,cond_true] at h
   split at h
   ·obtain ⟨r,he,h⟩:=dR h
    obtain ⟨h1,h2⟩:=QF (hty.flat hb) hl hr he
    exact lG hd hR hK (rM hop (by rw [hxs,hys]; exact h2 _ _ _) (v:=.bool r) (by rw [hxs,hys]; simp [binOp,h1])) lZ h
   ·obtain ⟨r,he,h⟩:=dR h
    obtain ⟨h1,h2⟩:=QF (hty.flat hb) hl hr he
    exact lG hd hR hK (rM hop (by rw [hxs,hys]; exact h2 _ _ _) (v:=.bool (!r)) (by rw [hxs,hys]; simp [binOp,h1])) lZ h
   ·exact h.elim
 ·exact h.elim
theorem aeb (hd:dI n.np n.nt o=true) (hR:R n σ g I a w) (hK:Post P n I w Q K) {op:UnOp} {t:TypeId} {x:Operand} (hop:o.op = .unOp op t x)
  (h:(bD Γ f o).wp cf σ tr Q):Goal P o a w K Qm:=by
 simp only [bD,hop] at h
 obtain ⟨ex,t1,hx,h⟩:=jk hR h
 obtain ⟨s,d,rfl,hv,h⟩:=nC hx h
 split at h
 ·obtain ⟨b,hb,rfl⟩:=hv
  exact lG hd hR hK (Ng hop (by rw [hb]; rfl)) lZ h
 ·obtain ⟨i,hi,rfl,-⟩:=hv
  exact lG hd hR hK (Ng hop (by rw [hi]; rfl)) vZ h
 ·obtain ⟨i,hi,rfl,-⟩:=hv
  exact lG hd hR hK (Ng hop (by rw [hi]; rfl)) vZ h
 ·exact h.elim
end
end Go.E

namespace Go.E
open Go
mutual
theorem LT.beq_eq : ∀ {a b:LT},LT.beq a b=true->a=b
 | .sc a,.sc b,h=>by unfold LT.beq at h; rw [of_decide_eq_true h]
 | .sl a,.sl b,h=>by unfold LT.beq at h; rw [LT.bM h]
 | .sc _,.sl _,h=>by unfold LT.beq at h; cases h
 | .sl _,.sc _,h=>by unfold LT.beq at h; cases h
theorem LT.bM : ∀ {a b:List LT},LT.d9 a b=true->a=b
 | [],[],h=>rfl
 | a::as,b::bs,h=>by
  unfold LT.d9 at h
  simp only [Bool.and_eq_true] at h
  rw [LT.beq_eq h.1,LT.bM h.2]
 | [],_::_,h=>by unfold LT.d9 at h; cases h
 | _::_,[],h=>by unfold LT.d9 at h; cases h
end
section
variable {w w':World} {I I' S A:aA}
def aT (w:World) (S:aA):List LT->List Value->List T->Prop
 | [],[],[]=>True
 | e::es,v::vs,d::ds=>aH w S e v d/\aT w S es vs ds
 | _,_,_=>False
def bL (w:World) (b o:Nat):List Value->Prop
 | []=>True
 | v::vs=>cellAt w b o=some v/\bL w b (o+1) vs
theorem dG.vals : ∀ {es:List LT} {b o:Nat} {row:List T},dG w A S es b o row->∃ vs,aT w S es vs row/\bL w b o vs
 | [],b,o,row,h=>by unfold dG at h; subst h; exact ⟨[],trivial,trivial⟩
 | e::es,b,o,row,h=>by
  unfold dG at h
  obtain ⟨d,rest,v,rfl,-,h3,h4,h5⟩:=h
  obtain ⟨vs,h6,h7⟩:=dG.vals h5
  exact ⟨v::vs,⟨h4,h6⟩,h3,h7⟩
theorem aT.len : ∀ {es:List LT} {vs:List Value} {ds:List T},aT w S es vs ds->vs.length=es.length/\ds.length=es.length
 | [],[],[],_=>⟨rfl,rfl⟩
 | _::es,_::vs,_::ds,h=>by have:=aT.len h.2; simp; omega
 | [],_::_,_,h=>h.elim
 | [],[],_::_,h=>h.elim
 | _::_,[],_,h=>h.elim
 | _::_,_::_,[],h=>h.elim
theorem aT.drop : ∀ {es:List LT} {vs:List Value} {ds:List T} (k:Nat),aT w S es vs ds->aT w S (es.drop k) (vs.drop k) (ds.drop k)
 | es,vs,ds,0,h=>h
 | [],[],[],k+1,h=>trivial
 | _::es,_::vs,_::ds,k+1,h=>aT.drop k h.2
 | [],_::_,_,_+1,h=>h.elim
 | [],[],_::_,_+1,h=>h.elim
 | _::_,[],_,_+1,h=>h.elim
 | _::_,_::_,[],_+1,h=>h.elim
theorem bL.drop : ∀ {vs:List Value} {b o:Nat} (k:Nat),bL w b o vs->bL w b (o+k) (vs.drop k)
 | vs,b,o,0,h=>h
 | [],b,o,k+1,h=>trivial
 | v::vs,b,o,k+1,h=>by
  have:=bL.drop k h.2
  rwa [show o+1+k=o+(k+1) from by omega] at this
theorem bL.take : ∀ {vs:List Value} {b o:Nat} (k:Nat),bL w b o vs->bL w b o (vs.take k)
 | vs,b,o,0,h=>trivial
 | [],b,o,k+1,h=>trivial
 | v::vs,b,o,k+1,h=>⟨h.1,bL.take k h.2⟩
theorem kX {b o:Nat} {c:Array Value} {el:TypeId} {fz:Nat×Nat} (h:Block w b c el fz):cellAt w b o=c[o]?:=by
 unfold Block at h
 simp [cellAt,World.cell?,h]
theorem Keeps.block {b:Nat} {c:Array Value} {el:TypeId} {fz:Nat×Nat} (h:Keeps A w w') (hb:Block w b c el fz) :
  ∃ c',Block w' b c' el fz/\c'.size=c.size /\ ∀ o,A b o->c'[o]? = c[o]?:=by
 obtain ⟨y,hy,hk⟩:=h.obj b _ hb
 obtain ⟨c',rfl,h1,h2⟩:=hk
 exact ⟨c',hy,h1,h2⟩
theorem dG.Za : ∀ {es:List LT} {b o:Nat} {vs:List Value} {row:List T},aT w I es vs row->bL w b o vs->dG w (fun _ _=>True) I es b o row
 | [],b,o,[],[],_,_=>by unfold dG; rfl
 | e::es,b,o,v::vs,d::ds,h,hc=>by
  unfold dG
  exact ⟨d,ds,v,rfl,trivial,hc.1,h.1,dG.Za h.2 hc.2⟩
 | [],_,_,_::_,_,h,_=>h.elim
 | [],_,_,[],_::_,h,_=>h.elim
 | _::_,_,_,[],_,h,_=>h.elim
 | _::_,_,_,_::_,[],h,_=>h.elim
theorem bL.of_block {b:Nat} {c:Array Value} {el:TypeId} {fz:Nat×Nat} (hb:Block w b c el fz) : ∀ (vs:List Value) (k:Nat),(∀ j (hj:j<vs.length),c[k+j]? = some vs[j])->bL w b k vs
 | [],_,_=>trivial
 | v::vs,k,h=>by
  refine ⟨?_,bL.of_block hb vs (k+1) fun j hj=>?_⟩
  ·rw [kX hb]; exact (h 0 (by simp))
  ·have:=h (j+1) (by simpa using hj)
   rwa [show k+(j+1)=k+1+j from by omega] at this
theorem bL.get : ∀ {vs:List Value} {b o:Nat},bL w b o vs->∀ j (hj:j<vs.length),cellAt w b (o+j)=some vs[j]
 | [],b,o,_,j,hj=>by simp at hj
 | v::vs,b,o,h,0,hj=>h.1
 | v::vs,b,o,h,j+1,hj=>by
  have:=bL.get h.2 j (by simpa using hj)
  rwa [show o+1+j=o+(j+1) from by omega] at this
theorem aT.take : ∀ {es:List LT} {vs:List Value} {ds:List T} (k:Nat),aT w S es vs ds->aT w S (es.take k) (vs.take k) (ds.take k)
 | es,vs,ds,0,h=>by simp [aT]
 | [],[],[],k+1,h=>trivial
 | _::es,_::vs,_::ds,k+1,h=>⟨h.1,aT.take k h.2⟩
 | [],_::_,_,_+1,h=>h.elim
 | [],[],_::_,_+1,h=>h.elim
 | _::_,[],_,_+1,h=>h.elim
 | _::_,_::_,[],_+1,h=>h.elim
theorem aT.app : ∀ {es es':List LT} {vs vs':List Value} {ds ds':List T},aT w S es vs ds->aT w S es' vs' ds'->aT w S (es++es') (vs++vs') (ds++ds')
 | [],es',[],vs',[],ds',_,h=>h
 | _::_,_,_::_,_,_::_,_,h,h'=>⟨h.1,aT.app h.2 h'⟩
 | [],_,_::_,_,_,_,h,_=>h.elim
 | [],_,[],_,_::_,_,h,_=>h.elim
 | _::_,_,[],_,_,_,h,_=>h.elim
 | _::_,_,_::_,_,[],_,h,_=>h.elim
theorem aT.mono {I I':aA} (h : ∀ b o,I b o->I' b o/\cellAt w' b o=cellAt w b o) : ∀ {es:List LT} {vs:List Value} {ds:List T},aT w I es vs ds->aT w' I' es vs ds
 | [],[],[],_=>trivial
 | e::es,v::vs,d::ds,hh=>⟨aH.mono (fun b o hb=>(h b o hb).1) (fun b o hb=>(h b o hb).2) e hh.1,aT.mono h hh.2⟩
 | [],_::_,_,h=>h.elim
 | [],[],_::_,h=>h.elim
 | _::_,[],_,h=>h.elim
 | _::_,_::_,[],h=>h.elim
theorem dG.AO {S A:aA} : ∀ {es:List LT} {vs:List Value} {ds:List T} {b o:Nat},aT w S es vs ds->bL w b o vs->(∀ j,j<vs.length->A b (o+j))->dG w A S es b o ds
 | [],[],[],b,o,_,_,_=>by unfold dG; rfl
 | e::es,v::vs,d::ds,b,o,h,hc,ha=>by
  unfold dG
  exact ⟨d,ds,v,rfl,by simpa using ha 0 (by simp),hc.1,h.1,dG.AO h.2 hc.2 fun j hj=>by
   have:=ha (j+1) (by simpa using hj)
   rwa [show o+(j+1)=o+1+j from by omega] at this⟩
 | [],_::_,_,_,_,h,_,_=>h.elim
 | [],[],_::_,_,_,h,_,_=>h.elim
 | _::_,[],_,_,_,h,_,_=>h.elim
 | _::_,_::_,[],_,_,h,_,_=>h.elim
end
section
variable {p q:List Value->List T->List Nat->Prop} {sz:Nat}
theorem aK.imp : ∀ {rows:List (List T)} {cs:List Value} {bs:List Nat},(∀ vs ds b',(∀ x∈b',x∈bs)->p vs ds b'->q vs ds b')->aK p sz rows cs bs->aK q sz rows cs bs
 | [],cs,bs,_,h=>h
 | r::rs,cs,bs,hp,h=>by
  obtain ⟨b1,b2,rfl,h1,h2⟩:=h
  exact ⟨b1,b2,rfl,hp _ _ _ (fun x hx=>by simp [hx]) h1,aK.imp (fun vs ds b' hb=>hp vs ds b' fun x hx=>by simp [hb x hx]) h2⟩
theorem aK.get : ∀ {rows:List (List T)} {cs:List Value} {bs:List Nat},aK p sz rows cs bs->∀ i (h:i<rows.length),∃ b',(∀ x∈b',x∈bs)/\p ((cs.drop (i * sz)).take sz) rows[i] b'
 | r::rs,cs,bs,h,0,_=>by
  obtain ⟨b1,b2,rfl,h1,h2⟩:=h
  exact ⟨b1,fun x hx=>by simp [hx],by simpa using h1⟩
 | r::rs,cs,bs,h,i+1,hi=>by
  obtain ⟨b1,b2,rfl,h1,h2⟩:=h
  obtain ⟨b',h3,h4⟩:=aK.get h2 i (by simpa using hi)
  refine ⟨b',fun x hx=>by simp [h3 x hx],?_⟩
  rw [List.drop_drop] at h4
  simpa [Nat.add_mul,Nat.add_comm] using h4
theorem aK.cells : ∀ {rows:List (List T)} {cs cs':List Value} {bs:List Nat},aK p sz rows cs bs->cs'.take (rows.length * sz)=cs.take (rows.length * sz)->aK p sz rows cs' bs
 | [],cs,cs',bs,h,_=>h
 | r::rs,cs,cs',bs,h,he=>by
  obtain ⟨b1,b2,rfl,h1,h2⟩:=h
  have e1:(r::rs).length * sz=sz+rs.length * sz:=by simp only [List.length_cons,Nat.add_mul]; omega
  rw [e1] at he
  refine ⟨b1,b2,rfl,?_,aK.cells h2 ?_⟩
  ·have:=congrArg (List.take sz) he
   rw [List.take_take,List.take_take,Nat.min_eq_left (by omega)] at this
   rw [this]; exact h1
  ·have:=congrArg (List.drop sz) he
   rw [List.drop_take,List.drop_take] at this
   simpa using this
theorem aK.app : ∀ {rows rows':List (List T)} {cs cs':List Value} {b1 b2:List Nat},aK p sz rows cs b1->cs.length=rows.length * sz->aK p sz rows' cs' b2->aK p sz (rows++rows') (cs++cs') (b1++b2)
 | [],rows',cs,cs',b1,b2,h,hn,h'=>by
  have:cs=[]:=List.length_eq_zero_iff.1 (by simpa using hn)
  subst this
  have h:b1=[]:=h
  subst h; exact h'
 | r::rs,rows',cs,cs',b1,b2,h,hn,h'=>by
  obtain ⟨b3,b4,rfl,h1,h2⟩:=h
  simp only [List.length_cons,Nat.add_mul,Nat.one_mul] at hn
  refine ⟨b3,b4++b2,by simp,?_,?_⟩
  ·rw [List.take_append_of_le_length (by omega)]; exact h1
  ·rw [List.drop_append_of_le_length (by omega)]
   exact aK.app h2 (by rw [List.length_drop]; omega) h'
theorem aK.split : ∀ (k:Nat) {rows:List (List T)} {cs:List Value} {bs:List Nat},aK p sz rows cs bs->∃ b1 b2,bs=b1++b2/\aK p sz (rows.take k) cs b1/\aK p sz (rows.drop k) (cs.drop (k * sz)) b2
 | 0,rows,cs,bs,h=>⟨[],bs,rfl,rfl,by simpa using h⟩
 | k+1,[],cs,bs,h=>by
  have h:bs=[]:=h
  subst h
  exact ⟨[],[],rfl,rfl,rfl⟩
 | k+1,r::rs,cs,bs,h=>by
  obtain ⟨b1,b2,rfl,h1,h2⟩:=h
  obtain ⟨b3,b4,rfl,h3,h4⟩:=aK.split k h2
  refine ⟨b1++b3,b4,by simp,⟨b1,b3,rfl,h1,h3⟩,?_⟩
  rw [List.drop_drop] at h4
  simpa [Nat.add_mul,Nat.add_comm] using h4
theorem aK.join : ∀ (k:Nat) {rows:List (List T)} {cs:List Value} {b1 b2:List Nat},k<=rows.length->aK p sz (rows.take k) cs b1->aK p sz (rows.drop k) (cs.drop (k * sz)) b2->aK p sz rows cs (b1++b2)
 | 0,rows,cs,b1,b2,_,h,h'=>by
  have h:b1=[]:=h
  subst h; simpa using h'
 | k+1,[],cs,b1,b2,hk,_,_=>by simp at hk
 | k+1,r::rs,cs,b1,b2,hk,h,h'=>by
  obtain ⟨b3,b4,rfl,h1,h2⟩:=h
  refine ⟨b3,b4++b2,by simp,h1,aK.join k (by simpa using hk) h2 ?_⟩
  rw [List.drop_drop]
  simpa [Nat.add_mul,Nat.add_comm] using h'
theorem aK.set {vs:List Value} {ds:List T} {bn:List Nat} (hp:p vs ds bn) (hv:vs.length=sz) : ∀ {rows:List (List T)} {cs:List Value} {bs:List Nat} (i:Nat),aK p sz rows cs bs->rows.length * sz<=cs.length->i<rows.length ->
  ∃ b1 bo b2,bs=b1++bo++b2/\aK p sz (rows.set i ds) (cs.take (i * sz)++vs++cs.drop (i * sz+sz)) (b1++bn++b2)
 | r::rs,cs,bs,0,h,hn,_=>by
  obtain ⟨bo,b2,rfl,h1,h2⟩:=h
  refine ⟨[],bo,b2,by simp,bn,b2,by simp,?_,?_⟩
  ·simp only [Nat.zero_mul,List.take_zero,List.nil_append,Nat.zero_add]
   rw [List.take_append_of_le_length (by omega),<-hv,List.take_length]; exact hp
  ·simp only [Nat.zero_mul,List.take_zero,List.nil_append,Nat.zero_add]
   rw [List.drop_append_of_le_length (by omega),<-hv,List.drop_length,List.nil_append,hv]; exact h2
 | r::rs,cs,bs,i+1,h,hn,hi=>by
  obtain ⟨b3,b4,rfl,h1,h2⟩:=h
  simp only [List.length_cons,Nat.add_mul,Nat.one_mul] at hn
  obtain ⟨b1,bo,b2,rfl,h3⟩:=aK.set hp hv i h2 (by rw [List.length_drop]; omega) (by simpa using hi)
  have e1:(i+1) * sz=sz+i * sz:=by rw [Nat.add_mul]; omega
  have hm:i * sz+sz<=rs.length * sz:=by
   have:=Nat.mul_le_mul_right sz (show i+1<=rs.length by simp at hi; omega)
   rwa [Nat.add_mul,Nat.one_mul] at this
  refine ⟨b3++b1,bo,b2,by simp,b3,b1++bn++b2,by simp,?_,?_⟩
  ·rw [List.append_assoc,List.take_append_of_le_length (by rw [List.length_take]; omega),List.take_take,Nat.min_eq_left (by omega)]
   exact h1
  ·rw [List.append_assoc,List.drop_append_of_le_length (by rw [List.length_take]; omega),<-List.append_assoc,List.drop_take]
   rw [show (i+1) * sz-sz=i * sz from by omega]
   rw [List.drop_drop] at h3
   rw [show (i+1) * sz+sz=sz+(i * sz+sz) from by omega]
   exact h3
theorem aK.all {r:List Value->List T->Prop} (hp : ∀ vs ds b',p vs ds b'->r vs ds) : ∀ {rows:List (List T)} {cs:List Value} {bs:List Nat},aK p sz rows cs bs->∀ i (h:i<rows.length),r ((cs.drop (i * sz)).take sz) rows[i] :=
 fun h i hi=>by obtain ⟨b',-,h1⟩:=h.get i hi; exact hp _ _ _ h1
end
section
variable {w w':World} {I I' S A:aA}
theorem iB {b:Nat} {c:Array Value} {el:TypeId} {fz:Nat×Nat} (h:Block w b c el fz):qj w b=c.size:=by
 unfold Block at h
 simp [qj,h]
theorem SE {bs:List Nat} {b o:Nat} (h:FB w bs b o) : ∃ v,cellAt w b o=some v:=by
 obtain ⟨-,h⟩:=h
 unfold qj at h
 split at h
 ·rename_i c el fz hb
  exact ⟨c[o],by simp [cellAt,World.cell?,hb,h]⟩
 ·omega
theorem vD (hk:Keeps A w w') {b:Nat} (hb : ∃ c el fz,Block w b c el fz):qj w' b=qj w b:=by
 obtain ⟨c,el,fz,hb⟩:=hb
 obtain ⟨c',h1,h2,-⟩:=hk.block hb
 rw [iB h1,iB hb,h2]
theorem qX {bs bs':List Nat} (h : ∀ b∈bs,b∈bs') : ∀ b o,FB w bs b o->FB w bs' b o:=fun b o hb=>⟨h b hb.1,hb.2⟩
theorem lH {bs bs':List Nat} {b o:Nat} : FB w (bs++bs') b o ↔ FB w bs b o\/FB w bs' b o:=by
 unfold FB; rw [List.mem_append]; constructor
 ·rintro ⟨h | h,h'⟩
  ·exact .inl ⟨h,h'⟩
  ·exact .inr ⟨h,h'⟩
 ·rintro (⟨h,h'⟩ | ⟨h,h'⟩)
  ·exact ⟨.inl h,h'⟩
  ·exact ⟨.inr h,h'⟩
theorem Zb {c:Nat} {bs:List Nat} {b o:Nat} : FB w (c::bs) b o ↔ (b=c/\o<qj w c)\/FB w bs b o:=by
 unfold FB; rw [List.mem_cons]; constructor
 ·rintro ⟨rfl | h,h'⟩
  ·exact .inl ⟨rfl,h'⟩
  ·exact .inr ⟨h,h'⟩
 ·rintro (⟨rfl,h'⟩ | ⟨h,h'⟩)
  ·exact ⟨.inl rfl,h'⟩
  ·exact ⟨.inr h,h'⟩
theorem DN (hk:Keeps A w w') {bs:List Nat} (hb : ∀ b∈bs,∃ c el fz,Block w b c el fz) (b o:Nat):FB w' bs b o ↔ FB w bs b o:=by
 unfold FB
 constructor
 ·rintro ⟨h1,h2⟩; exact ⟨h1,by rwa [vD hk (hb b h1)] at h2⟩
 ·rintro ⟨h1,h2⟩; exact ⟨h1,by rwa [vD hk (hb b h1)]⟩
theorem jP : ∀ {b1 b2:List Nat},fC w (b1++b2) ↔ fC w b1/\fC w b2 /\ ∀ b∈b1,b∈b2->qj w b=0
 | [],b2=>by simp [fC]
 | b::b1,b2=>by
  simp only [List.cons_append,fC,jP (b1:=b1),List.mem_append,List.mem_cons]
  constructor
  ·rintro ⟨h1,h2,h3,h4⟩
   exact ⟨⟨fun h=>h1 (.inl h),h2⟩,h3,fun x hx hx2=>hx.elim (fun e=>by subst e; exact h1 (.inr hx2)) fun hx=>h4 x hx hx2⟩
  ·rintro ⟨⟨h1,h2⟩,h3,h4⟩
   exact ⟨fun h=>h.elim h1 (h4 b (.inl rfl)),h2,h3,fun x hx=>h4 x (.inr hx)⟩
theorem vE {b1 b2:List Nat} : aA.apart (FB w b1) (FB w b2) ↔ ∀ b∈b1,b∈b2->qj w b=0:=by
 constructor
 ·intro h b h1 h2
  rcases Nat.eq_zero_or_pos (qj w b) with h3 | h3
  ·exact h3
  ·exact (h b 0 ⟨h1,h3⟩ ⟨h2,h3⟩).elim
 ·intro h b o h1 h2
  have:=h b h1.1 h2.1
  have:=h1.2
  omega
def He (l' l:List Nat):Prop:=∀ b,l'.count b<=l.count b
theorem He.refl (l:List Nat):He l l:=fun _=>Nat.le_refl _
theorem He.trans {l l' l'':List Nat} (h:He l l') (h':He l' l''):He l l'':=fun b=>Nat.le_trans (h b) (h' b)
theorem He.mem {l l':List Nat} (h:He l' l) {b:Nat} (hb:b∈l'):b∈l:=List.count_pos_iff.1 (Nat.lt_of_lt_of_le (List.count_pos_iff.2 hb) (h b))
theorem FU : ∀ {bs:List Nat},fC w bs ↔ ∀ b,qj w b≠0->bs.count b<=1
 | []=>by simp [fC]
 | c::bs=>by
  simp only [fC,FU (bs:=bs),List.count_cons]
  constructor
  ·rintro ⟨h1,h2⟩ b hb
   have:=h2 b hb
   by_cases hc:c=b
   ·subst hc
    have:bs.count c=0:=List.count_eq_zero.2 fun hm=>hb (h1 hm)
    simp [this]
   ·simp [hc]; exact this
  ·intro h
   refine ⟨fun hm=>?_,fun b hb=>Nat.le_trans (Nat.le_add_right _ _) (h b hb)⟩
   rcases Nat.eq_zero_or_pos (qj w c) with h1 | h1
   ·exact h1
   ·have h2:=h c (by omega)
    have h3:=List.count_pos_iff.2 hm
    rw [if_pos (by simp)] at h2
    omega
theorem BO {l l':List Nat} (h:He l' l) (hn:fC w l):fC w l':=by
 rw [FU] at hn ⊢
 exact fun b hb=>Nat.le_trans (h b) (hn b hb)
theorem pU (hk:Keeps A w w') : ∀ {bs:List Nat},(∀ b∈bs,∃ c el fz,Block w b c el fz)->fC w bs->fC w' bs
 | [],_,_=>trivial
 | b::bs,hb,h=>⟨fun hm=>by rw [vD hk (hb b (by simp))]; exact h.1 hm,pU hk (fun x hx=>hb x (by simp [hx])) h.2⟩
theorem ak.len : ∀ (es:List LT) {ms:List M} {vs:List Value} {ds:List T} {bs:List Nat},ak w I es ms vs ds bs->vs.length=es.length/\ds.length=es.length
 | [],_,_,_,_,h=>by unfold ak at h; obtain ⟨rfl,rfl,rfl⟩:=h; exact ⟨rfl,rfl⟩
 | e::es,ms,_,_,_,h=>by
  unfold ak at h
  obtain ⟨v,vs',d,ds',b1,b2,rfl,rfl,rfl,h1,h2⟩:=h
  have:=ak.len es h2
  simp; omega
theorem ak.split : ∀ (k:Nat) {es:List LT} {ms:List M} {vs:List Value} {ds:List T} {bs:List Nat},ak w I es ms vs ds bs ->
  ∃ b1 b2,bs=b1++b2/\ak w I (es.take k) ms (vs.take k) (ds.take k) b1/\ak w I (es.drop k) (ms.drop k) (vs.drop k) (ds.drop k) b2
 | 0,es,ms,vs,ds,bs,h=>⟨[],bs,rfl,by simp only [List.take_zero]; unfold ak; exact ⟨rfl,rfl,rfl⟩,h⟩
 | k+1,[],ms,vs,ds,bs,h=>by
  unfold ak at h
  obtain ⟨rfl,rfl,rfl⟩:=h
  refine ⟨[],[],rfl,?_,?_⟩ <;> simp only [List.take_nil,List.drop_nil] <;> unfold ak <;> exact ⟨rfl,rfl,rfl⟩
 | k+1,e::es,ms,_,_,_,h=>by
  unfold ak at h
  obtain ⟨v,vs',d,ds',b1,b2,rfl,rfl,rfl,h1,h2⟩:=h
  obtain ⟨b3,b4,rfl,h3,h4⟩:=ak.split k h2
  refine ⟨b1++b3,b4,by simp,?_,by simpa using h4⟩
  simp only [List.take_succ_cons]
  unfold ak
  exact ⟨v,_,d,_,b1,b3,rfl,rfl,rfl,h1,h3⟩
theorem ak.join : ∀ {es es':List LT} {ms:List M} {vs vs':List Value} {ds ds':List T} {b1 b2:List Nat},ak w I es ms vs ds b1->ak w I es' (ms.drop es.length) vs' ds' b2 ->
  ak w I (es++es') ms (vs++vs') (ds++ds') (b1++b2)
 | [],es',ms,vs,vs',ds,ds',b1,b2,h,h'=>by
  unfold ak at h
  obtain ⟨rfl,rfl,rfl⟩:=h
  exact h'
 | e::es,es',ms,_,vs',_,ds',_,b2,h,h'=>by
  unfold ak at h
  obtain ⟨v,vs1,d,ds1,b3,b4,rfl,rfl,rfl,h1,h2⟩:=h
  simp only [List.cons_append]
  unfold ak
  exact ⟨v,_,d,_,b3,b4++b2,rfl,rfl,by simp,h1,ak.join h2 (by rw [show ms.tail.drop es.length=ms.drop (e::es).length from by cases ms <;> simp]; exact h')⟩
mutual
theorem bS.leaf (hs : ∀ b o,I b o->S b o) : ∀ (lt:LT) {m:M} {v:Value} {d:T} {bs:List Nat},(∀ b o,FB w bs b o->S b o)->bS w I lt m v d bs->aH w S lt v d
 | .sc s,m,v,d,bs,hG,h=>by unfold bS at h; unfold aH; exact h.1
 | .sl es,.F,v,d,bs,hG,h=>by unfold bS at h; exact aH.mono hs (fun _ _ _=>rfl) _ h.1
 | .sl es,.O ms,v,d,bs,hG,h=>by
  unfold bS at h
  obtain ⟨rows,h1,h2,h3,h4⟩:=h
  unfold aH
  rcases h4 with ⟨⟨aa,rfl⟩,rfl,-⟩ | ⟨b,cap,c,el,fz,bs',rfl,rfl,h5,h6,h7,h8,h9⟩
  ·exact ⟨aa,0,[],h1,rfl,Nat.le_refl _,Nat.zero_le _,.inl rfl⟩
  ·refine ⟨some ⟨b,0,none⟩,cap,rows,h1,rfl,h5,h3,.inr ⟨b,0,rfl,fun i hi=>?_⟩⟩
   rw [Nat.zero_add]
   obtain ⟨b',h10,h11⟩:=h9.get i hi
   have h12:=ak.leaves hs es (fun b o hb=>hG b o (qX (fun x hx=>by simp [h10 x hx]) b o hb)) h11
   have hl:=h12.len.1
   have hm:(i+1) * es.length<=cap * es.length:=Nat.mul_le_mul_right _ (by omega)
   rw [Nat.add_mul,Nat.one_mul,<-h7] at hm
   refine dG.AO h12 (bL.of_block h6 _ _ fun j hj=>?_) fun j hj=>hG _ _ ⟨by simp,?_⟩
   ·simp only [List.getElem_take,List.getElem_drop,Array.getElem_toList]
    rw [Array.getElem?_eq_getElem (by omega)]
   ·rw [iB h6]; omega
theorem ak.leaves (hs : ∀ b o,I b o->S b o) : ∀ (es:List LT) {ms:List M} {vs:List Value} {ds:List T} {bs:List Nat},(∀ b o,FB w bs b o->S b o)->ak w I es ms vs ds bs->aT w S es vs ds
 | [],ms,vs,ds,bs,hG,h=>by unfold ak at h; obtain ⟨rfl,rfl,rfl⟩:=h; trivial
 | e::es,ms,vs,ds,bs,hG,h=>by
  unfold ak at h
  obtain ⟨v,vs',d,ds',b1,b2,rfl,rfl,rfl,h1,h2⟩:=h
  exact ⟨bS.leaf hs e (fun b o hb=>hG b o (lH.2 (.inl hb))) h1,ak.leaves hs es (fun b o hb=>hG b o (lH.2 (.inr hb))) h2⟩
end
mutual
theorem bS.blocks : ∀ (lt:LT) {m:M} {v:Value} {d:T} {bs:List Nat},bS w I lt m v d bs->∀ b∈bs,∃ c el fz,Block w b c el fz
 | .sc s,m,v,d,bs,h=>by unfold bS at h; rw [h.2]; simp
 | .sl es,.F,v,d,bs,h=>by unfold bS at h; rw [h.2]; simp
 | .sl es,.O ms,v,d,bs,h=>by
  unfold bS at h
  obtain ⟨rows,h1,h2,h3,h4⟩:=h
  rcases h4 with ⟨-,rfl,rfl⟩ | ⟨b,cap,c,el,fz,bs',rfl,rfl,h5,h6,h7,h8,h9⟩
  ·simp
  ·intro x hx
   rcases List.mem_cons.1 hx with rfl | hx
   ·exact ⟨c,el,fz,h6⟩
   ·exact nD (fun vs ds bs h=>ak.blocks es h) rows h9 x hx
theorem ak.blocks : ∀ (es:List LT) {ms:List M} {vs:List Value} {ds:List T} {bs:List Nat},ak w I es ms vs ds bs->∀ b∈bs,∃ c el fz,Block w b c el fz
 | [],ms,vs,ds,bs,h=>by unfold ak at h; rw [h.2.2]; simp
 | e::es,ms,vs,ds,bs,h=>by
  unfold ak at h
  obtain ⟨v,vs',d,ds',b1,b2,rfl,rfl,rfl,h1,h2⟩:=h
  intro x hx
  rcases List.mem_append.1 hx with hx | hx
  ·exact bS.blocks e h1 x hx
  ·exact ak.blocks es h2 x hx
theorem nD {p:List Value->List T->List Nat->Prop} {sz:Nat} (hp : ∀ vs ds bs,p vs ds bs->∀ b∈bs,∃ c el fz,Block w b c el fz) : ∀ (rows:List (List T)) {cs:List Value} {bs:List Nat},aK p sz rows cs bs->∀ b∈bs,∃ c el fz,Block w b c el fz
 | [],cs,bs,h=>by have h:bs=[]:=h; subst h; simp
 | r::rs,cs,bs,h=>by
  obtain ⟨b1,b2,rfl,h1,h2⟩:=h
  intro x hx
  rcases List.mem_append.1 hx with hx | hx
  ·exact hp _ _ _ h1 x hx
  ·exact nD hp rs h2 x hx
end
mutual
theorem bS.keep (hk:Keeps A w w') (hI : ∀ b o,I b o->I' b o/\cellAt w' b o=cellAt w b o) : ∀ (lt:LT) {m:M} {v:Value} {d:T} {bs:List Nat},(∀ b o,FB w bs b o->A b o)->bS w I lt m v d bs->bS w' I' lt m v d bs
 | .sc s,m,v,d,bs,hA,h=>by unfold bS at *; exact h
 | .sl es,.F,v,d,bs,hA,h=>by unfold bS at h ⊢; exact ⟨aH.mono (fun b o h=>(hI b o h).1) (fun b o h=>(hI b o h).2) _ h.1,h.2⟩
 | .sl es,.O ms,v,d,bs,hA,h=>by
  unfold bS at h ⊢
  obtain ⟨rows,h1,h2,h3,h4⟩:=h
  refine ⟨rows,h1,h2,h3,?_⟩
  rcases h4 with h4 | ⟨b,cap,c,el,fz,bs',rfl,rfl,h5,h6,h7,h8,h9⟩
  ·exact .inl h4
  ·right
   obtain ⟨c',hb,hsz,hcc⟩:=hk.block h6
   have e:c'=c:=by
    apply Array.ext hsz
    intro i hi1 hi2
    have:=hcc i (hA _ _ ⟨by simp,by rw [iB h6]; exact hi2⟩)
    rw [Array.getElem?_eq_getElem hi1,Array.getElem?_eq_getElem hi2] at this
    exact Option.some.inj this
   subst e
   refine ⟨b,cap,c',el,fz,bs',rfl,rfl,h5,hb,h7,h8,aK.imp (fun vs ds b' hb' h=>?_) h9⟩
   exact ak.keep hk hI es (fun b o hb=>hA b o (qX (fun x hx=>by simp [hb' x hx]) b o hb)) h
theorem ak.keep (hk:Keeps A w w') (hI : ∀ b o,I b o->I' b o/\cellAt w' b o=cellAt w b o) : ∀ (es:List LT) {ms:List M} {vs:List Value} {ds:List T} {bs:List Nat},(∀ b o,FB w bs b o->A b o)->ak w I es ms vs ds bs->ak w' I' es ms vs ds bs
 | [],ms,vs,ds,bs,hA,h=>by unfold ak at *; exact h
 | e::es,ms,vs,ds,bs,hA,h=>by
  unfold ak at h ⊢
  obtain ⟨v,vs',d,ds',b1,b2,rfl,rfl,rfl,h1,h2⟩:=h
  exact ⟨v,vs',d,ds',b1,b2,rfl,rfl,rfl,bS.keep hk hI e (fun b o hb=>hA b o (lH.2 (.inl hb))) h1,ak.keep hk hI es (fun b o hb=>hA b o (lH.2 (.inr hb))) h2⟩
end
theorem bS.same {lt:LT} {m:M} {v:Value} {d:T} {bs:List Nat} (hI : ∀ b o,I b o->I' b o) (h:bS w I lt m v d bs):bS w I' lt m v d bs :=
 bS.keep (Keeps.refl (fun _ _=>True) w) (fun b o hb=>⟨hI b o hb,rfl⟩) lt (fun _ _ _=>trivial) h
theorem ak.same {es:List LT} {ms:List M} {vs:List Value} {ds:List T} {bs:List Nat} (hI : ∀ b o,I b o->I' b o) (h:ak w I es ms vs ds bs):ak w I' es ms vs ds bs :=
 ak.keep (Keeps.refl (fun _ _=>True) w) (fun b o hb=>⟨hI b o hb,rfl⟩) es (fun _ _ _=>trivial) h
theorem bS.single {lt:LT} {m:M} {v:Value} {d:T} {bs:List Nat} (h:bS w I lt m v d bs):Single v :=
 (bS.leaf (S:=fun _ _=>True) (fun _ _ _=>trivial) lt (fun _ _ _=>trivial) h).single
theorem xC {ms:List M} (j:Nat):ms.tail.getD j .F=ms.getD (j+1) .F:=by cases ms <;> simp [List.getD]
theorem ak.each : ∀ {es:List LT} {ms:List M} {vs:List Value} {ds:List T} {bs:List Nat},ak w I es ms vs ds bs->∃ Bs:List (List Nat),Bs.length=es.length/\bs=Bs.flatten /\
  ∀ j (h:j<es.length),bS w I es[j] (ms.getD j .F) (vs.getD j .nilIface) (ds.getD j dflt) (Bs.getD j [])
 | [],ms,_,_,_,h=>by
  unfold ak at h
  obtain ⟨rfl,rfl,rfl⟩:=h
  exact ⟨[],rfl,rfl,fun j h=>by simp at h⟩
 | e::es,ms,_,_,_,h=>by
  unfold ak at h
  obtain ⟨v,vs',d,ds',b1,b2,rfl,rfl,rfl,h1,h2⟩:=h
  obtain ⟨Bs,h3,rfl,h4⟩:=ak.each h2
  refine ⟨b1::Bs,by simp [h3],by simp,fun j hj=>?_⟩
  cases j with
  | zero=>cases ms <;> simpa using h1
  | succ j =>
   have:=h4 j (by simpa using hj)
   rw [xC] at this
   simpa using this
theorem UO {ms:List M} (h:noO ms):ms.headD .F = .F:=by
 cases ms with
 | nil=>rfl
 | cons m ms=>cases m with
  | F=>rfl
  | O x=>exact absurd rfl (h (.O x) (by simp) x)
theorem UQ {ms:List M} (h:noO ms):noO ms.tail:=fun m hm=>h m (List.mem_of_mem_tail hm)
theorem ak.flat : ∀ (es:List LT) {ms:List M} {vs:List Value} {ds:List T} {bs:List Nat},noO ms->ak w I es ms vs ds bs->bs=[]/\aT w I es vs ds
 | [],ms,vs,ds,bs,hm,h=>by unfold ak at h; obtain ⟨rfl,rfl,rfl⟩:=h; exact ⟨rfl,trivial⟩
 | e::es,ms,vs,ds,bs,hm,h=>by
  unfold ak at h
  obtain ⟨v,vs',d,ds',b1,b2,rfl,rfl,rfl,h1,h2⟩:=h
  obtain ⟨rfl,h3⟩:=ak.flat es (UQ hm) h2
  rw [UO hm] at h1
  cases e with
  | sc s=>unfold bS at h1; obtain ⟨h4,rfl⟩:=h1; exact ⟨rfl,by unfold aH; exact h4,h3⟩
  | sl es'=>unfold bS at h1; obtain ⟨h4,rfl⟩:=h1; exact ⟨rfl,h4,h3⟩
theorem ak.of_flat : ∀ {es:List LT} {ms:List M} {vs:List Value} {ds:List T},noO ms->aT w I es vs ds->ak w I es ms vs ds []
 | [],ms,[],[],hm,h=>by unfold ak; exact ⟨rfl,rfl,rfl⟩
 | e::es,ms,v::vs,d::ds,hm,h=>by
  unfold ak
  refine ⟨v,vs,d,ds,[],[],rfl,rfl,rfl,?_,ak.of_flat (UQ hm) h.2⟩
  rw [UO hm]
  have h1:=h.1
  cases e with
  | sc s=>unfold bS; unfold aH at h1; exact ⟨h1,rfl⟩
  | sl es'=>unfold bS; exact ⟨h1,rfl⟩
 | [],_,_::_,_,_,h=>h.elim
 | [],_,[],_::_,_,h=>h.elim
 | _::_,_,[],_,_,h=>h.elim
 | _::_,_,_::_,[],_,h=>h.elim
theorem AP {es:List LT} {ms:List M} {sz:Nat} (hm:noO ms) : ∀ {rows:List (List T)} {cs:List Value} {bs:List Nat},aK (fun vs ds bs=>ak w I es ms vs ds bs) sz rows cs bs->bs=[]
 | [],cs,bs,h=>h
 | r::rs,cs,bs,h=>by
  obtain ⟨b1,b2,rfl,h1,h2⟩:=h
  rw [(ak.flat es hm h1).1,AP hm h2]; rfl
theorem aS.cases {es:List LT} {ms:List M} {rows:List (List T)} {h:Value} {F:aA} (hr:aS w I es ms rows h F):es≠[]/\rows.length<=bC /\
  (((∃ a,h = .slice a 0 0)/\rows=[] /\ ∀ b o,¬ F b o) \/
  ∃ b cap c el fz bs,h = .slice (some ⟨b,0,none⟩) rows.length cap/\rows.length<=cap/\Block w b c el fz/\c.size=cap * es.length/\(∀ o,o<=c.size->¬ (fz.1<=o/\o<fz.2)) /\
   aK (fun vs ds bs=>ak w I es ms vs ds bs) es.length rows c.toList bs/\fC w (b::bs) /\ ∀ b' o,F b' o ↔ (b'=b/\o<c.size)\/FB w bs b' o):=by
 obtain ⟨bs,hn,hc,hF⟩:=hr
 unfold bS at hc
 obtain ⟨rows',h1,h2,h3,h4⟩:=hc
 cases h1
 refine ⟨h2,h3,?_⟩
 rcases h4 with ⟨h4,rfl,rfl⟩ | ⟨b,cap,c,el,fz,bs',rfl,rfl,h5,h6,h7,h8,h9⟩
 ·exact .inl ⟨h4,rfl,fun b o hb=>by have:=((hF b o).1 hb).1; cases this⟩
 ·exact .inr ⟨b,cap,c,el,fz,bs',rfl,h5,h6,h7,h8,h9,hn,fun b' o=>by rw [hF b' o,Zb,iB h6]⟩
theorem aS.nil {es:List LT} {ms:List M} {F:aA} {aa:Option Addr} (hes:es≠[]) (hF : ∀ b o,¬ F b o):aS w I es ms [] (.slice aa 0 0) F :=
 ⟨[],trivial,by unfold bS; exact ⟨[],rfl,hes,Nat.zero_le _,.inl ⟨⟨_,rfl⟩,rfl,rfl⟩⟩,fun b o=>⟨fun h=>(hF b o h).elim,fun h=>by have:=h.1; cases this⟩⟩
theorem aS.mk' {es:List LT} {ms:List M} {rows:List (List T)} {F:aA} {b cap:Nat} {c:Array Value} {el:TypeId} {fz:Nat×Nat} {bs:List Nat} (hes:es≠[]) (h1:rows.length<=bC) (h2:rows.length<=cap) (h3:Block w b c el fz)
  (h4:c.size=cap * es.length) (h5 : ∀ o,o<=c.size->¬ (fz.1<=o/\o<fz.2)) (h6:aK (fun vs ds bs=>ak w I es ms vs ds bs) es.length rows c.toList bs) (h7:fC w (b::bs))
  (h8 : ∀ b' o,F b' o ↔ (b'=b/\o<c.size)\/FB w bs b' o):aS w I es ms rows (.slice (some ⟨b,0,none⟩) rows.length cap) F :=
 ⟨b::bs,h7,by unfold bS; exact ⟨rows,rfl,hes,h1,.inr ⟨b,cap,c,el,fz,bs,rfl,rfl,h2,h3,h4,h5,h6⟩⟩,fun b' o=>by rw [h8,Zb,iB h3]⟩
theorem aS.leaf {es:List LT} {ms:List M} {rows:List (List T)} {h:Value} {F:aA} (hr:aS w I es ms rows h F) (hs : ∀ b o,I b o->S b o) (hf : ∀ b o,F b o->S b o) :
  aH w S (.sl es) h (.l rows):=by
 obtain ⟨bs,hn,hc,hF⟩:=hr
 exact bS.leaf hs _ (fun b o hb=>hf b o ((hF b o).2 hb)) hc
theorem aS.keep {es:List LT} {ms:List M} {rows:List (List T)} {h:Value} {F:aA} (hr:aS w I es ms rows h F) (hk:Keeps A w w') (hA : ∀ b o,F b o->A b o)
  (hI : ∀ b o,I b o->I' b o/\cellAt w' b o=cellAt w b o):aS w' I' es ms rows h F:=by
 obtain ⟨bs,hn,hc,hF⟩:=hr
 exact ⟨bs,pU hk (bS.blocks _ hc) hn,bS.keep hk hI _ (fun b o hb=>hA b o ((hF b o).2 hb)) hc,fun b o=>(hF b o).trans (DN hk (bS.blocks _ hc) b o).symm⟩
theorem aS.same {es:List LT} {ms:List M} {rows:List (List T)} {h:Value} {F:aA} (hs : ∀ b o,I b o->I' b o) (hr:aS w I es ms rows h F):aS w I' es ms rows h F :=
 hr.keep (Keeps.refl (fun _ _=>True) w) (fun _ _ _=>trivial) fun b o hb=>⟨hs b o hb,rfl⟩
theorem aS.cell {es:List LT} {ms:List M} {rows:List (List T)} {h:Value} {F:aA} (hr:aS w I es ms rows h F) {b o:Nat} (hf:F b o) : ∃ v,cellAt w b o=some v:=by
 obtain ⟨bs,hn,hc,hF⟩:=hr
 exact SE ((hF b o).1 hf)
theorem aS.row {es:List LT} {ms:List M} {rows:List (List T)} {h:Value} {F:aA} (hr:aS w I es ms rows h F) {r:Nat} (h5:r<rows.length) :
  ∃ b cap vs bs,h = .slice (some ⟨b,0,none⟩) rows.length cap/\bL w b (r * es.length) vs/\ak w I es ms vs rows[r] bs/\(∀ b' o,FB w bs b' o->F b' o)/\(∀ j,j<es.length->F b (r * es.length+j)):=by
 obtain ⟨-,-,hown⟩:=hr.cases
 rcases hown with ⟨-,rfl,-⟩ | ⟨b,cap,c,el,fz,bs,rfl,h6,h7,h8,h9,h10,h11,h12⟩
 ·simp at h5
 ·obtain ⟨b',h13,h14⟩:=h10.get r h5
  have hl:=ak.len es h14
  have hm:(r+1) * es.length<=cap * es.length:=Nat.mul_le_mul_right _ (by omega)
  rw [Nat.add_mul,Nat.one_mul,<-h8] at hm
  refine ⟨b,cap,_,b',rfl,bL.of_block h7 _ _ fun j hj=>?_,h14,fun b'' o hb=>(h12 b'' o).2 (.inr (qX h13 b'' o hb)),fun j hj=>(h12 _ _).2 (.inl ⟨rfl,by omega⟩)⟩
  simp only [List.getElem_take,List.getElem_drop,Array.getElem_toList]
  rw [Array.getElem?_eq_getElem (by omega)]
end
section
variable {w:World}
theorem AQ {Bs:List (List Nat)} {j b:Nat} (h:b∈Bs.getD j []):b∈Bs.flatten:=by
 rw [List.getD] at h
 cases hj:Bs[j]? with
 | none=>rw [hj] at h; cases h
 | some l=>rw [hj] at h; exact List.mem_flatten.2 ⟨l,List.mem_of_getElem? hj,h⟩
theorem Nh : ∀ {Bs:List (List Nat)},fC w Bs.flatten->∀ j,fC w (Bs.getD j [])
 | [],_,j=>by simp [fC]
 | l::Bs,h,j=>by
  simp only [List.flatten_cons] at h
  obtain ⟨h1,h2,-⟩:=jP.1 h
  cases j with
  | zero=>simpa using h1
  | succ j=>simpa using Nh h2 j
theorem Ni : ∀ {Bs:List (List Nat)},fC w Bs.flatten->∀ i j,i≠j->aA.apart (FB w (Bs.getD i [])) (FB w (Bs.getD j []))
 | [],_,i,j,_=>fun b o h _=>by simp [FB] at h
 | l::Bs,h,i,j,hij=>by
  simp only [List.flatten_cons] at h
  obtain ⟨h1,h2,h3⟩:=jP.1 h
  have key : ∀ j,aA.apart (FB w l) (FB w (Bs.getD j [])):=fun j=>fun b o h4 h5=>vE.2 h3 b o h4 (qX (fun x hx=>AQ hx) b o h5)
  cases i with
  | zero =>
   cases j with
   | zero=>exact absurd rfl hij
   | succ j=>simpa using key j
  | succ i =>
   cases j with
   | zero=>exact fun b o h4 h5=>key i b o (by simpa using h5) (by simpa using h4)
   | succ j=>simpa using Ni h2 i j (by omega)
end
mutual
theorem M.beq_eq : ∀ {a b:M},M.beq a b=true->a=b
 | .F,.F,_=>rfl
 | .O a,.O b,h=>congrArg M.O (M.bM (a:=a) (b:=b) (by simpa [M.beq] using h))
 | .F,.O _,h=>by simp [M.beq] at h
 | .O _,.F,h=>by simp [M.beq] at h
theorem M.bM : ∀ {a b:List M},M.d9 a b=true->a=b
 | [],[],_=>rfl
 | a::az,b::bs,h=>by
  simp only [M.d9,Bool.and_eq_true] at h
  rw [M.beq_eq h.1,M.bM h.2]
 | [],_::_,h=>by simp [M.d9] at h
 | _::_,[],h=>by simp [M.d9] at h
end
theorem xV {ms:List M} (h:MN ms=true):noO ms:=by
 intro m hm x e
 have:=List.all_eq_true.1 h m hm
 subst e
 simp at this
end Go.E

namespace Go.E
open Go
section
variable {w:World} {I S A:aA}
end
section
variable {Γ:Ctx} {P:Program} {cf:FuncId->List Arg->R3 gu}
variable {n:Fr} {σ:S} {g:Gh} {I:aA} {a:Act} {w:World}
variable {o:Oper} {f:FuncId} {tr:Tr} {Q:S->Tr->Prop} {K:Act->World->Prop} {Qm:Exit->Act->World->Prop}
theorem l5 (κ:Key->KE) : ∀ b o,I b o->dw κ g I [] b o:=fun _ _ h=>.inl h
theorem Hf (κ:Key->KE):Cur κ []:=fun _ h=>(nomatch h)
theorem sK (κ:Key->KE):Old κ []:=fun _ h=>(nomatch h)
theorem Nj (hR:R n σ g I a w) {l:Leaf} {v:Value} {k:List LT->List (List T)->List BG->Prog} (hl:Dt σ.k g w I l v) (h:(vT l k).wp cf σ tr Q) :
  ∃ es rows deps dB,(k es rows deps).wp cf σ dB Q/\aH w (dw σ.k g I deps) (.sl es) v (.l rows)/\Cur σ.k deps/\Old σ.k deps /\ ∀ d∈deps,d.1∈vB l:=by
 obtain ⟨st,lt,d⟩:=l
 obtain ⟨hs,hl⟩:=hl
 unfold vT at h
 simp only at h hl
 cases lt with
 | sc s=>cases st <;> exact h.elim
 | sl es =>
  cases st with
  | sc=>exact h.elim
  | dead=>exact h.elim
  | nl =>
   obtain ⟨-,rfl,rfl⟩:=hl
   refine ⟨es,[],[],tr,h,?_,Hf _,sK _,fun _ h=>(nomatch h)⟩
   unfold aH
   exact ⟨none,0,[],rfl,rfl,Nat.le_refl _,Nat.zero_le _,.inl rfl⟩
  | sn ds =>
   obtain ⟨-,h1,h2⟩:=hl
   obtain ⟨h3,dB,h4⟩:=rH h
   have h5:=h2 h3
   obtain ⟨x,y,rows,rfl,h6⟩:=by unfold aH at h5; exact h5
   exact ⟨es,_,ds,dB,h4,h2 h3,h3,h1,fun d hd=>List.mem_map.2 ⟨d,hd,rfl⟩⟩
  | sb key m cv r off =>
   obtain ⟨-,-,h1,h2⟩:=hl
   obtain ⟨h3,dB,h4⟩:=rH h
   have h5:=(h2 h3).1
   obtain ⟨x,y,rows,rfl,h6⟩:=by unfold aH at h5; exact h5
   exact ⟨es,_,[(key,cv)],dB,h4,(h2 h3).1,h3,h1,fun d hd=>by rw [List.mem_singleton.1 hd]; exact List.mem_singleton.2 rfl⟩
  | al key m =>
   obtain ⟨-,h1,h2⟩:=hl
   obtain ⟨h3,h⟩:=h
   have h4:=h2 (Nat.eq_of_beq_eq_true h3)
   subst h4
   have hch:=hR.tL key
   split at h
   ·rename_i es' ms rows e
    rw [e] at hch
    refine ⟨es',rows,_,_,h,aS.leaf hch (fun _ _ h=>.inl h) (fun b o' hf=>.inr ⟨_,List.mem_singleton.2 rfl,.inr ⟨by simp only [e]; trivial,hf⟩⟩),?_,?_,fun d hd=>by rw [List.mem_singleton.1 hd]; exact List.mem_singleton.2 rfl⟩
    ·intro d hd; rw [List.mem_singleton.1 hd]
    ·intro d hd; rw [List.mem_singleton.1 hd]; exact Nat.le_refl _
   ·rename_i es' rows e
    rw [e] at hch
    exact ⟨es',rows,[],_,h,aH.mono (l5 _) (fun _ _ _=>rfl) _ hch,Hf _,sK _,fun _ h=>(nomatch h)⟩
   ·exact h.elim
theorem pV (hR:R n σ g I a w) {l:Leaf} {v:Value} {k:List LT->List (List T)->List BG->Prog} (hl:Dt σ.k g w I l v) (h:(vT l k).wp cf σ tr Q) :
  ∃ es rows deps dB,(k es rows deps).wp cf σ dB Q/\aH w (dw σ.k g I deps) (.sl es) v (.l rows)/\Cur σ.k deps/\Old σ.k deps:=by
 obtain ⟨es,rows,deps,dB,h1,h2,h3,h4,-⟩:=Nj hR hl h
 exact ⟨es,rows,deps,dB,h1,h2,h3,h4⟩
end
end Go.E

namespace Go.E
open Go
section
variable {P:Program} {w:World} {I S A:aA}
theorem addr_add (b o k:Nat):Addr.add ⟨b,o,none⟩ k=⟨b,o+k,none⟩:=by
 unfold Addr.add
 split
 ·rename_i h; subst h; rfl
 ·rfl
theorem run_load {b o:Nat} {v:Value} (h:cellAt w b o=some v):(load ⟨b,o,none⟩).run P w = .ok v w:=by
 unfold cellAt at h
 simp [load,Sem.run,h]
theorem run_loadCellsFrom {b o:Nat} : ∀ (vs:List Value) (i:Nat) (acc:Array Value),bL w b (o+i) vs ->
  (loadCellsFrom ⟨b,o,none⟩ i vs.length acc).run P w = .ok (acc++vs.toArray) w
 | [],i,acc,h=>by simp [loadCellsFrom]
 | v::vs,i,acc,h=>by
  simp only [List.length_cons,loadCellsFrom,Sem.run_bind,addr_add,run_load h.1,Result.andThen_ok]
  rw [run_loadCellsFrom vs (i+1) (acc.push v) (by have:=h.2; rwa [show o+i+1=o+(i+1) from by omega] at this)]
  simp
theorem run_loadCells {b o:Nat} {vs:List Value} (h:bL w b o vs):(loadCells ⟨b,o,none⟩ vs.length).run P w = .ok vs.toArray w:=by
 unfold loadCells
 rw [run_loadCellsFrom vs 0 #[] (by simpa using h)]
 simp
end
section
variable {Γ:Ctx} {P:Program} {w:World}
theorem EB {t:TypeId} {ti:TI} (h:uo Γ P t ti):(isAgg t).run P w = .ok (xJ ti.kind) w:=by
 obtain ⟨d,h1,h2⟩:=h.und
 simp only [isAgg,Sem.run_bind,run_underlying h1,Result.andThen_ok]
 cases hk:ti.kind with
 | sc s=>rw [hk] at h2; cases s <;> first | (obtain ⟨rfl,-⟩:=h2; rfl) | exact h2.elim
 | slice e=>rw [hk] at h2; obtain ⟨rfl,-⟩:=h2; rfl
 | struct fs=>rw [hk] at h2; obtain ⟨fields,rfl,-⟩:=h2; rfl
 | array m e=>rw [hk] at h2; cases h2; rfl
 | ptr e=>rw [hk] at h2; obtain ⟨rfl,-⟩:=h2; rfl
 | other =>
  rw [hk] at h2
  cases d <;> first | rfl | exact absurd rfl (h2.1 _) | exact absurd rfl (h2.2.1 _ _)
theorem run_sizeOf {t:TypeId} {ti:TI} (h:uo Γ P t ti):(sizeOf t).run P w = .ok ti.aP.length w:=by
 obtain ⟨i,h1,h2,-⟩:=h.info
 simp [sizeOf,typeInfo,h1,h2,go_sem]
theorem zf {t:TypeId} {ti:TI} (h:uo Γ P t ti) {b o:Nat} {vs:List Value} (hv:bL w b o vs) (hn:vs.length=ti.aP.length) :
  (xJ ti.kind=true->(loadVar t ⟨b,o,none⟩).run P w = .ok (.agg vs.toArray) w) /\
  (xJ ti.kind=false->∀ v,vs=[v]->(loadVar t ⟨b,o,none⟩).run P w = .ok v w):=by
 constructor
 ·intro ha
  simp only [loadVar,Sem.run_bind,EB h,ha,Result.andThen_ok,if_true,run_sizeOf h]
  rw [<-hn]
  simp [run_loadCells hv]
 ·rintro ha v rfl
  simp only [loadVar,Sem.run_bind,EB h,ha,Result.andThen_ok,Bool.false_eq_true,if_false]
  exact run_load hv.1
theorem FV {t:TypeId} {ti:TI} (h:uo Γ P t ti) (ha:xJ ti.kind=false):ti.aP.length=1:=by
 obtain ⟨d,h1,h2⟩:=h.und
 cases hk:ti.kind with
 | sc s=>rw [hk] at h2; cases s <;> first | (rw [h2.2]; rfl) | exact h2.elim
 | slice e=>rw [hk] at h2; obtain ⟨-,te,-,h3,-⟩:=h2; rw [h3]; rfl
 | struct fs=>rw [hk] at ha; cases ha
 | array m e=>rw [hk] at ha; cases ha
 | ptr e=>rw [hk] at h2; rw [h2.2]; rfl
 | other=>rw [hk] at h2; rw [h2.2.2]; rfl
theorem Ke {ρ:Operand->Value} {o:Oper} {t:TypeId} {x:Operand} {b o':Nat} {v:Value} (hop:o.op = .load t x) (hx:ρ x = .pointer (some ⟨b,o',none⟩))
  (h:(loadVar t ⟨b,o',none⟩).run P w = .ok v w):(execOp ρ o).run P w = .ok (.value v) w:=by
 have h1:(Instr.loadAt t (ρ x)).run P w = .ok v w:=by
  simp only [Instr.loadAt,hx,Instr.sureAddr,pure_bind]
  exact h
 simp only [execOp,hop]
 rw [Sem.run_bind,h1]
 rfl
end
section
variable {Γ:Ctx} {P:Program} {cf:FuncId->List Arg->R3 gu}
variable {n:Fr} {σ:S} {g:Gh} {I:aA} {a:Act} {w:World}
variable {o:Oper} {f:FuncId} {tr:Tr} {Q:S->Tr->Prop} {K:Act->World->Prop} {Qm:Exit->Act->World->Prop}
theorem bZ.drop {κ:Key->KE} : ∀ {ls:List Leaf} {vs:List Value} (k:Nat),bZ κ g w I ls vs->bZ κ g w I (ls.drop k) (vs.drop k)
 | ls,vs,0,h=>h
 | [],[],k+1,h=>trivial
 | _::ls,_::vs,k+1,h=>bZ.drop k h.2
 | [],_::_,_+1,h=>h.elim
 | _::_,[],_+1,h=>h.elim
theorem bZ.take {κ:Key->KE} : ∀ {ls:List Leaf} {vs:List Value} (k:Nat),bZ κ g w I ls vs->bZ κ g w I (ls.take k) (vs.take k)
 | ls,vs,0,h=>trivial
 | [],[],k+1,h=>trivial
 | _::ls,_::vs,k+1,h=>⟨h.1,bZ.take k h.2⟩
 | [],_::_,_+1,h=>h.elim
 | _::_,[],_+1,h=>h.elim
theorem bZ.len {κ:Key->KE} : ∀ {ls:List Leaf} {vs:List Value},bZ κ g w I ls vs->vs.length=ls.length
 | [],[],h=>rfl
 | _::ls,_::vs,h=>by have:=bZ.len h.2; simp; omega
 | [],_::_,h=>h.elim
 | _::_,[],h=>h.elim
theorem QG {κ:Key->KE} {deps:List BG} {lt:LT} {v:Value} {d:T} (ho:Old κ deps) (hi : ∀ b o,I b o->dw κ g I deps b o)
  (h:aH w (dw κ g I deps) lt v d):Dt κ g w I (XJ deps lt d) v:=by
 unfold XJ
 cases lt with
 | sl es=>exact ⟨h.single,trivial,ho,fun _=>h⟩
 | sc s=>refine ⟨h.single,s,rfl,?_⟩; unfold aH at h; exact h
theorem FW {κ:Key->KE} {S:aA} {mk:LT->T->Leaf} (hmk : ∀ lt v d,aH w S lt v d->Dt κ g w I (mk lt d) v) :
  ∀ (size:Nat) {es:List LT} {vs:List Value} {ds:List T},aT w S es vs ds->size<=es.length ->
  bZ κ g w I ((List.range size).map fun j=>mk (es.getD j default) (ds.getD j dflt)) (vs.take size)
 | 0,es,vs,ds,h,hn=>trivial
 | size+1,[],_,_,h,hn=>by simp at hn
 | size+1,e::es,[],ds,h,hn=>h.elim
 | size+1,e::es,v::vs,[],h,hn=>h.elim
 | size+1,e::es,v::vs,d::ds,h,hn=>by
  rw [List.range_succ_eq_map,List.map_cons,List.map_map]
  exact ⟨hmk _ _ _ h.1,FW hmk size h.2 (by simpa using hn)⟩
theorem getD_drop {α:Type} (l:List α) (k j:Nat) (d:α):(l.drop k).getD j d=l.getD (k+j) d:=by
 simp [List.getD,List.getElem?_drop]
theorem UR {κ:Key->KE} {key:Key} {r off:Nat} {lt:LT} {m:M} {v:Value} {d:T} {bs:List Nat} (hl:Live (κ key).ch) (hb : ∀ b o,FB w bs b o->g.F key b o)
  (hloc : ∃ b o,addrIn (lC (κ key).ch) (g.h key) r off=some (b,o)/\cellAt w b o=some v/\g.F key b o) (h:bS w I lt m v d bs) :
  Dt κ g w I (GJ key (κ key).bO (κ key).cv r off lt m d) v:=by
 have hs:=h.single
 unfold GJ
 cases lt with
 | sc s =>
  unfold bS at h
  cases m <;> exact ⟨hs,s,rfl,h.1⟩
 | sl es =>
  cases m with
  | F =>
   unfold bS at h
   exact ⟨hs,trivial,sK _,fun _=>aH.mono (l5 _) (fun _ _ _=>rfl) _ h.1⟩
  | O x =>
   have UU : ∀ b o,g.F key b o->dw κ g I [(key,(κ key).cv)] b o:=fun b o hf=>.inr ⟨_,List.mem_singleton.2 rfl,.inr ⟨hl,hf⟩⟩
   refine ⟨hs,trivial,Nat.le_refl _,fun d hd=>by rw [List.mem_singleton.1 hd]; exact Nat.le_refl _,fun _=>⟨bS.leaf (fun b o hi=>.inl hi) _ (fun b o hf=>UU b o (hb b o hf)) h,fun _=>?_⟩⟩
   obtain ⟨b,o,h1,h2,h3⟩:=hloc
   exact ⟨b,o,h1,h2,UU b o h3⟩
theorem SF {κ:Key->KE} {key:Key} {r off size b o0:Nat} {es:List LT} {ms:List M} {row:List T} {vs:List Value} {bs:List Nat} (hl:Live (κ key).ch) (hb : ∀ b o,FB w bs b o->g.F key b o)
  (hloc : ∀ j,j<es.length->addrIn (lC (κ key).ch) (g.h key) r j=some (b,o0+j)/\g.F key b (o0+j)) (hc:bL w b o0 vs)
  (h:ak w I es ms vs row bs) (hn:off+size<=es.length):bZ κ g w I (Jl key (κ key).bO (κ key).cv r off size es ms row) ((vs.drop off).take size):=by
 have aux : ∀ (size k:Nat) (es:List LT) (ms:List M) (vs:List Value) (ds:List T) (bs:List Nat),ak w I es ms vs ds bs->(∀ b o,FB w bs b o->g.F key b o) ->
   (∀ j v,vs[j]? = some v->∃ b o,addrIn (lC (κ key).ch) (g.h key) r (k+j)=some (b,o)/\cellAt w b o=some v/\g.F key b o)->size<=es.length ->
   bZ κ g w I ((List.range size).map fun j=>GJ key (κ key).bO (κ key).cv r (k+j) (es.getD j default) (ms.getD j .F) (ds.getD j dflt)) (vs.take size):=by
  intro size
  induction size with
  | zero=>intros; trivial
  | succ size ih =>
   intro k es ms vs ds bs h hb hloc hn
   cases es with
   | nil=>simp at hn
   | cons e es =>
    unfold ak at h
    obtain ⟨v,vs',d,ds',b1,b2,rfl,rfl,rfl,h1,h2⟩:=h
    rw [List.range_succ_eq_map,List.map_cons,List.map_map]
    refine ⟨?_,?_⟩
    ·have:=UR (m:=ms.headD .F) hl (fun b o hf=>hb b o (lH.2 (.inl hf))) (hloc 0 v (by simp)) h1
     cases ms <;> simpa using this
    ·have:=ih (k+1) es ms.tail vs' ds' b2 h2 (fun b o hf=>hb b o (lH.2 (.inr hf))) (fun j v hv=>by
      have:=hloc (j+1) v (by simpa using hv)
      rwa [show k+(j+1)=k+1+j from by omega] at this) (by simpa using hn)
     have e1 : ∀ j,ms.tail.getD j .F=ms.getD (j+1) .F:=fun j=>by cases ms <;> simp [List.getD]
     simpa [Function.comp_def,Nat.add_assoc,Nat.add_comm 1,e1] using this
 obtain ⟨b1,b2,rfl,-,h2⟩:=h.split off
 have hl2:=ak.len es h
 have:=aux size off (es.drop off) (ms.drop off) (vs.drop off) (row.drop off) b2 h2 (fun b o hf=>hb b o (lH.2 (.inr hf))) (fun j v hv=>by
  rw [List.getElem?_drop] at hv
  obtain ⟨hj,rfl⟩:=List.getElem?_eq_some_iff.1 hv
  obtain ⟨h3,h4⟩:=hloc (off+j) (by omega)
  exact ⟨_,_,h3,hc.get _ hj,h4⟩) (by rw [List.length_drop]; omega)
 simpa only [getD_drop,Jl] using this
theorem aec (hΓ:eT Γ P) (hd:dI n.np n.nt o=true) (hR:R n σ g I a w) (hK:Post P n I w Q K) {t:TypeId} {x:Operand} (hop:o.op = .load t x)
  (h:(bD Γ f o).wp cf σ tr Q):Goal P o a w K Qm:=by
 simp only [bD,hop] at h
 obtain ⟨ti,-,hty,h⟩:=fM hΓ h
 obtain ⟨e,t1,he,h⟩:=jk hR h
 have fin : ∀ (b o':Nat) (vs:List Value) (ls:List Leaf) (t':Tr),a.eval x = .pointer (some ⟨b,o',none⟩)->bL w b o' vs->vs.length=ti.aP.length ->
   bZ σ.k g w I ls vs->(put o.dst (Dx (xJ ti.kind) ls)).wp cf σ t' Q->Goal P o a w K Qm:=by
  intro b o' vs ls t' hx hc hn hl hp
  cases ha:xJ ti.kind with
  | true =>
   rw [ha] at hp
   exact jD hd hR hK (Ke hop hx ((zf hty hc hn).1 ha)) (Nf (by simpa using hl)) hp
  | false =>
   rw [ha] at hp
   have hn1:=FV hty ha
   rw [hn1] at hn
   match vs,hn with
   | [v],_=>exact jD hd hR hK (Ke hop hx ((zf hty hc (by simpa using hn1.symm)).2 ha v rfl)) (Jt hl) hp
 split at h
 ·rename_i key m r off
  obtain ⟨hs,h1,h2⟩:=he
  obtain ⟨h3,h⟩:=h
  obtain ⟨b,o',hx,jE⟩:=h2 (Nat.eq_of_beq_eq_true h3)
  have hch:=hR.tL key
  split at h
  ·rename_i ls e
   rw [e] at hch jE
   obtain ⟨h4,h⟩:=h
   obtain ⟨bb,oo,c,el,fz,hh,hblk,hsz,-,-,hls⟩:=hch
   rw [hh] at jE
   simp only [addrIn,Option.some.injEq,Prod.mk.injEq] at jE
   obtain ⟨rfl,rfl⟩:=jE
   have h5:off+ti.aP.length<=ls.length:=Nat.le_of_ble_eq_true h4
   have hcells : ∀ (vs:List Value) (k:Nat),(∀ j (hj:j<vs.length),c[k+j]? = some vs[j])->bL w bb k vs:=by
    intro vs
    induction vs with
    | nil=>intro k _; trivial
    | cons v vs ih =>
     intro k hk
     refine ⟨?_,ih (k+1) fun j hj=>?_⟩
     ·have:=hk 0 (by simp)
      unfold cellAt World.cell?
      rw [hblk]; simpa using this
     ·have:=hk (j+1) (by simpa using hj)
      rwa [show k+(j+1)=k+1+j from by omega] at this
   refine fin bb (oo+off) (((c.toList.drop oo).take ls.length).drop off |>.take ti.aP.length) _ _ hx (hcells _ _ fun j hj=>?_) ?_ (bZ.take _ (bZ.drop _ hls)) h
   ·have hj':j<ti.aP.length/\off+j<ls.length/\oo+(off+j)<c.size:=by
     simp only [List.length_take,List.length_drop,Array.length_toList] at hj
     omega
    simp only [List.getElem_take,List.getElem_drop,Array.getElem_toList]
    rw [show oo+off+j=oo+(off+j) from by omega]
    exact Array.getElem?_eq_getElem hj'.2.2
   ·simp only [List.length_take,List.length_drop,Array.length_toList]
    omega
  ·rename_i es ms rows e
   rw [e] at hch jE
   obtain ⟨h4,h5,h⟩:=h
   have h4:off+ti.aP.length<=es.length:=Nat.le_of_ble_eq_true h4
   have h5:r<rows.length:=of_decide_eq_true h5
   obtain ⟨bb,cap,vs,bs,hh,h6,h7,h8,h9⟩:=aS.row hch h5
   rw [hh] at jE
   simp only [addrIn,lC,Option.some.injEq,Prod.mk.injEq,Nat.zero_add] at jE
   obtain ⟨rfl,rfl⟩:=jE
   have e1:rows.getD r []=rows[r]:=by simp [h5]
   rw [e1] at h
   have hid:=Nat.eq_of_beq_eq_true h3
   rw [<-hid] at h
   refine fin bb _ _ _ _ hx ((h6.drop off).take _) ?_ (SF (by rw [e]; trivial) h8 (fun j hj=>⟨by rw [e,hh]; simp only [addrIn,lC,Nat.zero_add],h9 j hj⟩) h6 h7 h4) h
   rw [List.length_take,List.length_drop,(ak.len es h7).1]
   omega
  ·rename_i es rows e
   rw [e] at hch jE
   obtain ⟨h4,h5,h⟩:=h
   have h4:off+ti.aP.length<=es.length:=Nat.le_of_ble_eq_true h4
   have h5:r<rows.length:=of_decide_eq_true h5
   simp only [Fx] at hch
   unfold aH at hch
   obtain ⟨aa,cap,rows',e',hh,-,-,hrows⟩:=hch
   cases e'
   rcases hrows with rfl | ⟨bb,oo,rfl,hrows⟩
   ·simp at h5
   ·rw [hh] at jE
    simp only [addrIn,lC,Option.some.injEq,Prod.mk.injEq] at jE
    obtain ⟨rfl,rfl⟩:=jE
    obtain ⟨vs,h6,h7⟩:=(hrows r h5).vals
    have e1:rows.getD r []=rows[r]:=by simp [h5]
    rw [e1] at h
    refine fin bb _ _ _ _ hx ((h7.drop off).take _) ?_ (FW (fun lt v d hl=>QG (sK _) (l5 _) (aH.mono (l5 _) (fun _ _ _=>rfl) _ hl)) _ (h6.drop off) (by rw [List.length_drop]; omega)) h
    rw [List.length_take,List.length_drop,h6.len.1]
    omega
  ·rename_i es ms rows r' jj e
   rw [e] at hch jE
   obtain ⟨h4,h5,h⟩:=h
   have h4:=Nat.eq_of_beq_eq_true h4
   subst h4
   have h5:=Nat.eq_of_beq_eq_true h5
   obtain ⟨-,-,hrl,bb,cap,c,el,fz,B1,B2,hh,-,-,-,-,-,-,-,-,-,wB⟩:=hch
   have wB:=wB h5
   rw [hh] at jE
   simp only [addrIn,lC,Option.some.injEq,Prod.mk.injEq,Nat.zero_add] at jE
   obtain ⟨rfl,rfl⟩:=jE
   split at h
   ·rename_i ls eb
    obtain ⟨h6,h⟩:=h
    have h6:off+ti.aP.length<=ls.length:=Nat.le_of_ble_eq_true h6
    have hb:=hR.tL (iG key)
    rw [eb] at hb
    obtain ⟨b2,o2,c2,el2,fz2,Zc,hblk,hsz,-,-,hls⟩:=hb
    rw [wB] at Zc
    cases Zc
    refine fin bb _ ((((c2.toList.drop (r * es.length)).take ls.length).drop off).take ti.aP.length) _ _ hx (bL.of_block hblk _ _ fun j hj=>?_) ?_ (bZ.take _ (bZ.drop _ hls)) h
    ·simp only [List.length_take,List.length_drop,Array.length_toList] at hj
     simp only [List.getElem_take,List.getElem_drop,Array.getElem_toList]
     rw [show r * es.length+off+j=r * es.length+(off+j) from by omega]
     exact Array.getElem?_eq_getElem (by omega)
    ·simp only [List.length_take,List.length_drop,Array.length_toList]
     omega
   ·exact h.elim
  ·exact h.elim
 ·rename_i deps aP row
  obtain ⟨hs,h1,h2⟩:=he
  obtain ⟨h3,h⟩:=h
  obtain ⟨h4,t',h⟩:=rH h
  obtain ⟨b,o',hx,hrow⟩:=h2 h4
  obtain ⟨vs,h5,h6⟩:=hrow.vals
  have hle:ti.aP.length<=aP.length:=Nat.le_of_ble_eq_true h3
  refine fin b o' (vs.take ti.aP.length) _ _ hx (h6.take _) ?_ (FW (fun lt v d hl=>QG h1 (fun _ _ h=>.inl h) hl) _ h5 hle) h
  rw [List.length_take,h5.len.1]
  omega
 ·exact h.elim
end
end Go.E

namespace Go.E
open Go
section
variable {Γ:Ctx} {P:Program} {w:World} {ρ:Operand->Value} {o:Oper}
theorem Fy {t:TypeId} {x:Operand} {i b o':Nat} {fields:Array Field} {fd:Field} {j:TypeInfo} (hop:o.op = .fieldAddr t x i) (hx:ρ x = .pointer (some ⟨b,o',none⟩))
  (hu:P.underlying t=some (.struct fields)) (hf:fields[i]? = some fd) (hi:P.info? fd.type=some j) (h0:j.size≠0) :
  (execOp ρ o).run P w = .ok (.value (.pointer (some ⟨b,o'+fd.offset,none⟩))) w:=by
 have h1:(Instr.fieldAt t (ρ x) i).run P w = .ok (.pointer (some ⟨b,o'+fd.offset,none⟩)) w:=by
  have h2:(sizeOf fd.type).run P w = .ok j.size w:=by simp [sizeOf,typeInfo,hi,go_sem]
  simp only [Instr.fieldAt,hx,Instr.sureAddr,Sem.run_bind,run_underlying hu,Result.andThen_ok,hf,pure_bind,fieldPlace,h2,h0,if_false,addr_add]
  rfl
 simp only [execOp,hop]
 rw [Sem.run_bind,h1]
 rfl
theorem QH {t:TypeId} {x:Operand} {i:Nat} {fields:Array Field} {fd:Field} {cs:Array Value} {v:Value} (hop:o.op = .field t x i) (hx:ρ x = .agg cs)
  (hu:P.underlying t=some (.struct fields)) (hf:fields[i]? = some fd) (hp:(part fd.type cs fd.offset).run P w = .ok v w) :
  (execOp ρ o).run P w = .ok (.value v) w:=by
 have h1:(Instr.field t (ρ x) i).run P w = .ok v w:=by
  simp only [Instr.field,hx,asAgg,Sem.run_bind,run_underlying hu,Result.andThen_ok,hf,pure_bind]
  exact hp
 simp only [execOp,hop]
 rw [Sem.run_bind,h1]
 rfl
theorem PZ {t e:TypeId} {x ix:Operand} {b o' len cap:Nat} {k:IntKind} {i:Int} {sz:Nat} (hop:o.op = .indexAddr t x ix)
  (hx:ρ x = .slice (some ⟨b,o',none⟩) len cap) (hi:ρ ix = .int k i) (hu:P.underlying t=some (.slice e)) (hs:(sizeOf e).run P w = .ok sz w) (h:0<=i/\i<len) :
  (execOp ρ o).run P w = .ok (.value (.pointer (some ⟨b,o'+i.toNat * sz,none⟩))) w:=by
 have h1:(Instr.indexAt t (ρ x) (ρ ix)).run P w = .ok (.pointer (some ⟨b,o'+i.toNat * sz,none⟩)) w:=by
  simp only [Instr.indexAt,hx,hi,asIntOf,Sem.run_bind,run_underlying hu,Result.andThen_ok,pure_bind,h,and_self,if_true,hs,addr_add,Sem.run_pure]
 simp only [execOp,hop]
 rw [Sem.run_bind,h1]
 rfl
theorem aam {t:TypeId} {x ix:Operand} {k:IntKind} {i:Int} {s:ByteArray} (hop:o.op = .index t x ix)
  (hx:ρ x = .string s) (hi:ρ ix = .int k i) (hu:P.underlying t=some .string) (h:0<=i/\i<s.size) :
  (execOp ρ o).run P w = .ok (.value (.int .u8 (s.data.toList.getD i.toNat 0).toNat)) w:=by
 have hlt:i.toNat<s.size:=by omega
 have hs:s[i.toNat]? = some (s.data.toList.getD i.toNat 0):=by
  rw [getElem?_pos s i.toNat hlt]
  have:i.toNat<s.data.toList.length:=by simpa using hlt
  rw [List.getD,List.getElem?_eq_getElem this]
  rfl
 have h1:(Instr.index t (ρ x) (ρ ix)).run P w = .ok (.int .u8 (s.data.toList.getD i.toNat 0).toNat) w:=by
  simp only [Instr.index,hx,hi,asIntOf,Sem.run_bind,run_underlying hu,Result.andThen_ok,pure_bind,h.1,if_true,hs,Sem.run_pure]
 simp only [execOp,hop]
 rw [Sem.run_bind,h1]
 rfl
theorem SG {fn:FuncId} {cs:Array Operand} (hop:o.op = .makeFunc (.func fn) #[] cs) :
  (execOp ρ o).run P w = .ok (.value (.func (.func fn) #[] (cs.map ρ))) w:=by
 simp only [execOp,hop]
 rw [Sem.run_bind]
 simp [Instr.makeFunc]
theorem DR {b:Builtin} {c:Call} {v:Value} (hop:o.op = .call c) (hc:c.callee = .builtin b)
  (h:(builtin b c.argTypes o.type (c.args.map fun | .const _=>true | _=>false) (c.args.map ρ)).run P w = .ok (.value v) w) :
  (execOp ρ o).run P w = .ok (.value v) w:=by
 simp only [execOp,hop]
 rw [Sem.run_bind]
 simp only [resolve,hc]
 exact h
end
section
variable {Γ:Ctx} {P:Program} {cf:FuncId->List Arg->R3 gu}
variable {n:Fr} {σ:S} {g:Gh} {I:aA} {a:Act} {w:World}
variable {o:Oper} {f:FuncId} {tr:Tr} {Q:S->Tr->Prop} {K:Act->World->Prop} {Qm:Exit->Act->World->Prop}
def vF (κ:Key->KE) (g:Gh) (w:World) (I:aA):List fA->List Value->Prop
 | [],[]=>True
 | l::ls,v::vs=>jq κ g w I l v/\vF κ g w I ls vs
 | _,_=>False
theorem xW (hR:R n σ g I a w) : ∀ {xs:List Operand} {k:List fA->Prog} {tr:Tr},(J9 xs k).wp cf σ tr Q ->
  ∃ es dB,vF σ.k g w I es (xs.map a.eval)/\(k es).wp cf σ dB Q
 | [],k,tr,h=>⟨[],tr,trivial,h⟩
 | x::xs,k,tr,h=>by
  obtain ⟨e,t1,he,h⟩:=jk hR h
  obtain ⟨es,t2,hes,h⟩:=xW hR (xs:=xs) h
  exact ⟨e::es,t2,⟨he,hes⟩,h⟩
theorem Kg {t:TypeId} {ti:TI} {fs:List (Nat×TypeId)} (h:uo Γ P t ti) (hk:ti.kind = .struct fs) :
  ∃ fields,P.underlying t=some (.struct fields) /\ ∀ (i off:Nat) (ft:TypeId),fs[i]? = some (off,ft)->∃ fd j,fields[i]? = some fd/\fd.offset=off/\fd.type=ft/\P.info? ft=some j/\j.size≠0:=by
 obtain ⟨d,h1,h2⟩:=h.und
 rw [hk] at h2
 obtain ⟨fields,rfl,rfl,h3⟩:=h2
 refine ⟨fields,h1,fun i off ft hi=>?_⟩
 simp only [List.getElem?_map,Option.map_eq_some_iff,Prod.mk.injEq] at hi
 obtain ⟨fd,hfd,rfl,rfl⟩:=hi
 obtain ⟨j,hj,hj0⟩:=h3 fd (List.mem_of_getElem? hfd)
 exact ⟨fd,j,by simpa using hfd,rfl,rfl,hj,hj0⟩
theorem kY {t e:TypeId} {ti:TI} (h:uo Γ P t ti) (hk:ti.kind = .slice e) :
  P.underlying t=some (.slice e) /\ ∃ te,Γ.ty e=some te/\ti.aP=[.sl te.aP]/\te.aP≠[]:=by
 obtain ⟨d,h1,h2⟩:=h.und
 rw [hk] at h2
 obtain ⟨rfl,h3⟩:=h2
 exact ⟨h1,h3⟩
theorem Hg {t:TypeId} {ti:TI} (h:uo Γ P t ti) (hk:ti.kind = .sc .str):P.underlying t=some .string:=by
 obtain ⟨d,h1,h2⟩:=h.und
 rw [hk] at h2
 rw [h1,h2.1]
theorem Ju {k:TK} (h:Dz k=true):k = .sc .str:=by
 unfold Dz at h
 split at h
 ·rfl
 ·cases h
theorem rQ {k:TK} (h:sF k=true) : ∃ e,k = .slice e:=by
 unfold sF at h
 split at h
 ·exact ⟨_,rfl⟩
 ·cases h
theorem SH (hΓ:eT Γ P) (hd:dI n.np n.nt o=true) (hR:R n σ g I a w) (hK:Post P n I w Q K) {t:TypeId} {x:Operand} {i:Nat} (hop:o.op = .fieldAddr t x i)
  (h:(bD Γ f o).wp cf σ tr Q):Goal P o a w K Qm:=by
 simp only [bD,hop] at h
 obtain ⟨ti,-,hty,h⟩:=fM hΓ h
 obtain ⟨e,t1,he,h⟩:=jk hR h
 split at h
 ·rename_i fs hk
  obtain ⟨⟨off,ft⟩,hfs,h⟩:=dR h
  obtain ⟨fields,hu,hfd⟩:=Kg hty hk
  obtain ⟨fd,j,h1,rfl,rfl,h2,h3⟩:=hfd i off ft hfs
  split at h
  ·rename_i k m r oo _
   obtain ⟨hs,h4,h5⟩:=he
   obtain ⟨h6,h⟩:=h
   obtain ⟨b,o',hx,ha⟩:=h5 (Nat.eq_of_beq_eq_true h6)
   refine jD hd hR hK (Fy hop hx hu h1 h2 h3) (e:=.ptr k m r (oo+fd.offset)) ⟨⟨fun _ h=>(nomatch h),fun _ h=>(nomatch h)⟩,h4,fun _=>⟨b,o'+fd.offset,rfl,?_⟩⟩ h
   unfold addrIn at ha ⊢
   split at ha
   ·cases ha; simp [Nat.add_assoc]
   ·cases ha; simp [Nat.add_assoc]
   ·cases ha
  ·rename_i deps aP row _
   obtain ⟨hs,h4,h5⟩:=he
   obtain ⟨h8,h⟩:=h
   obtain ⟨h6,t2,h⟩:=rH h
   obtain ⟨b,o',hx,ha⟩:=h5 h6
   refine jD hd hR hK (Fy hop hx hu h1 h2 h3) (e:=.rp deps (aP.drop fd.offset) (row.drop fd.offset)) ⟨⟨fun _ h=>(nomatch h),fun _ h=>(nomatch h)⟩,h4,fun _=>⟨b,o'+fd.offset,rfl,?_⟩⟩ h
   have drop : ∀ (k:Nat) {es:List LT} {o:Nat} {row:List T},k<=es.length->dG w (dw σ.k g I deps) (dw σ.k g I deps) es b o row->dG w (dw σ.k g I deps) (dw σ.k g I deps) (es.drop k) b (o+k) (row.drop k):=by
    intro k
    induction k with
    | zero=>intro es o row _ h; exact h
    | succ k ih =>
     intro es o row hk h
     cases es with
     | nil=>simp at hk
     | cons e es =>
      unfold dG at h
      obtain ⟨d,rest,v,rfl,-,-,-,h⟩:=h
      have:=ih (by simpa using hk) h
      rwa [show o+1+k=o+(k+1) from by omega] at this
   exact drop _ (Nat.le_of_ble_eq_true h8) ha
  ·exact h.elim
 ·exact h.elim
theorem abR (hΓ:eT Γ P) (hd:dI n.np n.nt o=true) (hR:R n σ g I a w) (hK:Post P n I w Q K) {t:TypeId} {x:Operand} {i:Nat} (hop:o.op = .field t x i)
  (h:(bD Γ f o).wp cf σ tr Q):Goal P o a w K Qm:=by
 simp only [bD,hop] at h
 obtain ⟨ti,-,hty,h⟩:=fM hΓ h
 obtain ⟨e,t1,he,h⟩:=jk hR h
 split at h
 ·rename_i fs ls hk
  obtain ⟨⟨off,ft⟩,hfs,h⟩:=dR h
  obtain ⟨tf,-,htf,h⟩:=fM hΓ h
  obtain ⟨fields,hu,hfd⟩:=Kg hty hk
  obtain ⟨fd,j,h1,rfl,rfl,h2,h3⟩:=hfd i off ft hfs
  obtain ⟨cs,hx,hls⟩:=he
  obtain ⟨h4,h⟩:=h
  have h4:fd.offset+tf.aP.length<=ls.length:=Nat.le_of_ble_eq_true h4
  have hlen:=hls.len
  cases ha:xJ tf.kind with
  | true =>
   rw [ha] at h
   refine jD hd hR hK (QH hop hx hu h1 (v:=.agg (cs.extract fd.offset (fd.offset+tf.aP.length))) ?_) (Nf ?_) h
   ·simp [part,EB htf,ha,run_sizeOf htf]
   ·have:=(hls.drop fd.offset).take tf.aP.length
    simpa [Array.toList_extract,List.extract_eq_take_drop,Nat.add_sub_cancel_left] using this
  | false =>
   rw [ha] at h
   have h1':=FV htf ha
   have hlt:fd.offset<cs.size:=by simp at hlen; omega
   refine jD hd hR hK (QH hop hx hu h1 (v:=cs[fd.offset]) ?_) (Jt ?_) h
   ·simp [part,EB htf,ha,hlt]
   ·have:=(hls.drop fd.offset).take tf.aP.length
    rw [h1'] at this ⊢
    have e:(List.drop fd.offset cs.toList).take 1=[cs[fd.offset]]:=by
     rw [List.drop_eq_getElem_cons (by simpa using hlt)]
     rfl
    rwa [e] at this
 ·exact h.elim
theorem SK (hΓ:eT Γ P) (hd:dI n.np n.nt o=true) (hR:R n σ g I a w) (hK:Post P n I w Q K) {t:TypeId} {x i:Operand} (hop:o.op = .indexAddr t x i)
  (h:(bD Γ f o).wp cf σ tr Q):Goal P o a w K Qm:=by
 simp only [bD,hop] at h
 obtain ⟨ti,-,hty,h⟩:=fM hΓ h
 obtain ⟨e,t1,he,h⟩:=jk hR h
 obtain ⟨ei,t2,hei,h⟩:=jk hR h
 obtain ⟨s,d,rfl,hv,h⟩:=nC hei h
 split at h
 ·rename_i _ el tes l hk SL _ _
  obtain ⟨ix,hix,rfl,-⟩:=hv
  obtain ⟨hu,te,hte,hl,-⟩:=kY hty hk
  have hsz:=run_sizeOf (w:=w) (hΓ.ty _ _ hte)
  rw [SL] at hl
  simp only [List.cons.injEq,LT.sl.injEq,and_true] at hl
  subst hl
  have fin : ∀ (es:List LT) (rows:List (List T)) (S:aA),aH w S (.sl es) (a.eval x) (.l rows)->es.length=te.aP.length->0<=ix/\ix<rows.length ->
    ∃ b oo len cap,a.eval x = .slice (some ⟨b,oo,none⟩) len cap/\(execOp a.eval o).run P w = .ok (.value (.pointer (some ⟨b,oo+ix.toNat * es.length,none⟩))) w /\
     ∀ (hi:ix.toNat<rows.length),dG w S S es b (oo+ix.toNat * es.length) rows[ix.toNat]:=by
   intro es rows S nQ hlen hb
   unfold aH at nQ
   obtain ⟨aa,cap,rows',e1,hv,-,-,hrows⟩:=nQ
   cases e1
   rcases hrows with rfl | ⟨b,oo,rfl,hrows⟩
   ·simp at hb; omega
   ·refine ⟨b,oo,_,_,hv,?_,fun hi=>hrows _ hi⟩
    rw [hlen]
    exact PZ hop hv hix hu hsz hb
  split at h
  ·rename_i key m hst
   obtain ⟨hs,hl⟩:=he
   simp only [hst] at hl
   obtain ⟨-,h1,h2⟩:=hl
   obtain ⟨h3,h⟩:=h
   have hid:=Nat.eq_of_beq_eq_true h3
   have hval:=h2 hid
   have hch:=hR.tL key
   split at h
   ·rename_i es ms rows e
    rw [e] at hch
    obtain ⟨h4,h5,h⟩:=h
    obtain ⟨b,oo,len,cap,hv,hrun,-⟩:=fin es rows (fun _ _=>True) (by rw [hval]; exact aH.mono (fun _ _ _=>trivial) (fun _ _ _=>rfl) _ (aS.leaf (S:=fun _ _=>True) hch (fun _ _ _=>trivial) (fun _ _ _=>trivial)))
     (Nat.eq_of_beq_eq_true h4) (of_decide_eq_true h5)
    refine jD hd hR hK hrun (e:=.ptr key m ix.toNat 0) ⟨⟨fun _ h=>(nomatch h),fun _ h=>(nomatch h)⟩,h1,fun _=>⟨b,_,rfl,?_⟩⟩ h
    rw [<-hval,hv,e]
    simp [addrIn,lC]
   ·rename_i es rows e
    rw [e] at hch
    obtain ⟨h4,h5,h⟩:=h
    obtain ⟨b,oo,len,cap,hv,hrun,-⟩:=fin es rows I (by rw [hval]; exact hch) (Nat.eq_of_beq_eq_true h4) (of_decide_eq_true h5)
    refine jD hd hR hK hrun (e:=.ptr key m ix.toNat 0) ⟨⟨fun _ h=>(nomatch h),fun _ h=>(nomatch h)⟩,h1,fun _=>⟨b,_,rfl,?_⟩⟩ h
    rw [<-hval,hv,e]
    simp [addrIn,lC]
   ·exact h.elim
  ·obtain ⟨es,rows,deps,t',h,h1,h2,h3⟩:=pV hR he h
   obtain ⟨h4,h5,h⟩:=h
   have hb:=of_decide_eq_true h5
   simp only [T.int] at hb
   obtain ⟨b,oo,len,cap,hv,hrun,hrow⟩:=fin es rows _ h1 (Nat.eq_of_beq_eq_true h4) hb
   have hlt:ix.toNat<rows.length:=by omega
   refine jD hd hR hK hrun (e:=.rp deps es (rows.getD ix.toNat [])) ⟨⟨fun _ h=>(nomatch h),fun _ h=>(nomatch h)⟩,h3,fun _=>⟨b,_,rfl,?_⟩⟩ h
   have e1:rows.getD ix.toNat []=rows[ix.toNat]:=by simp [hlt]
   rw [e1]
   exact hrow hlt
 ·exact h.elim
theorem abT (hΓ:eT Γ P) (hd:dI n.np n.nt o=true) (hR:R n σ g I a w) (hK:Post P n I w Q K) {t:TypeId} {x i:Operand} (hop:o.op = .index t x i)
  (h:(bD Γ f o).wp cf σ tr Q):Goal P o a w K Qm:=by
 simp only [bD,hop] at h
 obtain ⟨ti,-,hty,h⟩:=fM hΓ h
 obtain ⟨e,t1,he,h⟩:=jk hR h
 obtain ⟨ei,t2,hei,h⟩:=jk hR h
 obtain ⟨s,d,rfl,hv,h⟩:=nC he h
 obtain ⟨s',d',rfl,hv',h⟩:=nC hei h
 split at h
 ·have hk:ti.kind = .sc .str:=by assumption
  obtain ⟨str,hs,rfl,-⟩:=hv
  obtain ⟨ix,hix,rfl,-⟩:=hv'
  obtain ⟨h1,h⟩:=h
  have h1:=of_decide_eq_true h1
  simp only [T.int,T.str] at h1
  refine lG hd hR hK (s:=.int .u8) (aam hop hs hix (Hg hty hk) h1) ⟨_,rfl,rfl,?_⟩ h
  have:=UInt8.toNat_lt (str.data.toList.getD ix.toNat 0)
  simp only [IntKind.min,IntKind.max,IntKind.bits,IntKind.signed]
  constructor
  ·simp
  ·simp only [Bool.false_eq_true,if_false]
   omega
 ·exact h.elim
theorem UW (hd:dI n.np n.nt o=true) (hR:R n σ g I a w) (hK:Post P n I w Q K) {fn:FuncId} {fs cs:Array Operand} (hop:o.op = .makeFunc (.func fn) fs cs)
  (h:(bD Γ f o).wp cf σ tr Q):Goal P o a w K Qm:=by
 simp only [bD,hop] at h
 cases he:fs.isEmpty with
 | false=>simp only [he,cond_false] at h; exact h.elim
 | true =>
  simp only [he,cond_true] at h
  have hfs:fs = #[]:=by simpa using he
  subst hfs
  obtain ⟨es,t',hes,h⟩:=xW hR h
  obtain ⟨h1,h⟩:=h
  refine jD hd hR hK (SG hop) (e:=.fn fn es) ⟨_,rfl,?_⟩ h
  have aux : ∀ (es:List fA) (vs:List Value),vF σ.k g w I es vs->es.all Sm=true->og σ.k g w I es vs:=by
   intro es
   induction es with
   | nil=>intro vs h _; cases vs with | nil=>trivial | cons=>exact h.elim
   | cons e es ih =>
    intro vs h hf
    cases vs with
    | nil=>exact h.elim
    | cons v vs =>
     simp only [List.all_cons,Bool.and_eq_true] at hf
     refine ⟨?_,ih vs h.2 hf.2⟩
     have h1:=h.1
     cases e <;> first | exact h1 | (simp [Sm] at hf)
  simpa using aux es _ hes h1
end
end Go.E

namespace Go.E
open Go
section
variable {Γ:Ctx} {P:Program} {w:World} {ρ:Operand->Value} {o:Oper}
theorem UY {t:TypeId} {ts:Array TypeId} {ty:TypeId} {s:ByteArray} (ht:ts[0]? = some t) (hu:P.underlying t=some .string) :
  (Builtin.len_ ts ty #[.string s]).run P w = .ok (.int .i64 s.size) w:=by
 simp [Builtin.len_,ht,run_underlying hu,goInt]
theorem run_len_slice {t e:TypeId} {ts:Array TypeId} {ty:TypeId} {a:Option Addr} {len cap:Nat} (ht:ts[0]? = some t) (hu:P.underlying t=some (.slice e)) :
  (Builtin.len_ ts ty #[.slice a len cap]).run P w = .ok (.int .i64 len) w:=by
 simp [Builtin.len_,ht,run_underlying hu,goInt]
theorem Di {c:Call} {v:Value} (hop:o.op = .call c) (hc:c.callee = .builtin .len)
  (h:(Builtin.len_ c.argTypes o.type (c.args.map ρ)).run P w = .ok v w) :
  (execOp ρ o).run P w = .ok (.value v) w:=by
 refine DR hop hc ?_
 simp only [builtin]
 rw [Sem.run_bind,h]
 rfl
theorem pW {v:Value} {k:IntKind} {i:Int} {y:Nat} {code:BoundsCode} (hv:v = .int k i) (h:0<=i/\i<=y) :
  (Instr.sliceBound v y code).run P w = .ok i.toNat w:=by
 subst hv
 simp [Instr.sliceBound,asIntOf,h]
def Dj (o:Option Value) (d x:Int):Prop:=(o=none/\x=d) \/ ∃ k,o=some (.int k x)
theorem Nk {sl:Bool} {len cap:Nat} {lo hi:Option Value} {l h:Int} (hlo:Dj lo 0 l) (hhi:Dj hi len h) (h1:0<=h/\h<=len) (h2:0<=l/\l<=h) (hc:len<=cap) :
  (Instr.sliceBounds sl len cap lo hi none).run P w = .ok (l.toNat,h.toNat,cap) w:=by
 have h3:0<=h/\h<=(cap:Int):=⟨h1.1,by omega⟩
 have h4:0<=l/\l<=(h.toNat:Int):=⟨h2.1,by omega⟩
 rcases hlo with ⟨rfl,rfl⟩ | ⟨k,rfl⟩ <;> rcases hhi with ⟨rfl,rfl⟩ | ⟨k',rfl⟩
 ·simp [Instr.sliceBounds]
 ·simp [Instr.sliceBounds,pW rfl h3]
 ·simp only [Instr.sliceBounds,pure_bind,Sem.run_bind]
  simp only [Sem.run_pure,Result.andThen_ok]
  have h5:0<=l/\l<=(len:Int):=by omega
  simp [pW rfl h5]
 ·simp only [Instr.sliceBounds,pure_bind,Sem.run_bind]
  simp [pW rfl h3,pW rfl h4]
theorem P5 {t:TypeId} {x:Operand} {lo hi:Option Operand} {s:ByteArray} {l h:Int} (hop:o.op = .slice t x lo hi none) (hx:ρ x = .string s)
  (hu:P.underlying t=some .string) (hlo:Dj (lo.map ρ) 0 l) (hhi:Dj (hi.map ρ) s.size h) (h1:0<=h/\h<=s.size) (h2:0<=l/\l<=h) :
  (execOp ρ o).run P w = .ok (.value (.string (s.extract l.toNat h.toNat))) w:=by
 have h3:(Instr.sliceAt t (ρ x) (lo.map ρ) (hi.map ρ) none).run P w = .ok (.string (s.extract l.toNat h.toNat)) w:=by
  simp only [Instr.sliceAt,Sem.run_bind,run_underlying hu,Result.andThen_ok,Instr.slice,hx]
  simp [Nk (P:=P) (w:=w) (sl:=false) hlo hhi h1 h2 (Nat.le_refl _)]
 simp only [execOp,hop]
 rw [Sem.run_bind,show (none:Option Operand).map ρ=none from rfl,h3]
 rfl
theorem BP {t e:TypeId} {x:Operand} {lo hi:Option Operand} {aa:Option Addr} {len cap sz:Nat} {l h:Int} (hop:o.op = .slice t x lo hi none) (hx:ρ x = .slice aa len cap)
  (hu:P.underlying t=some (.slice e)) (hs:(sizeOf e).run P w = .ok sz w) (hlo:Dj (lo.map ρ) 0 l) (hhi:Dj (hi.map ρ) len h) (h1:0<=h/\h<=len) (h2:0<=l/\l<=h) (hc:len<=cap) :
  (execOp ρ o).run P w = .ok (.value (.slice (if cap=l.toNat then aa else aa.map (·.add (l.toNat * sz))) (h.toNat-l.toNat) (cap-l.toNat))) w:=by
 have h3:(Instr.sliceAt t (ρ x) (lo.map ρ) (hi.map ρ) none).run P w = .ok (.slice (if cap=l.toNat then aa else aa.map (·.add (l.toNat * sz))) (h.toNat-l.toNat) (cap-l.toNat)) w:=by
  simp only [Instr.sliceAt,Sem.run_bind,run_underlying hu,Result.andThen_ok,Instr.slice,hx]
  simp [Nk (P:=P) (w:=w) (sl:=true) hlo hhi h1 h2 hc,hs]
 simp only [execOp,hop]
 rw [Sem.run_bind,show (none:Option Operand).map ρ=none from rfl,h3]
 rfl
end
section
variable {Γ:Ctx} {P:Program} {cf:FuncId->List Arg->R3 gu}
variable {n:Fr} {σ:S} {g:Gh} {I:aA} {a:Act} {w:World}
variable {o:Oper} {f:FuncId} {tr:Tr} {Q:S->Tr->Prop} {K:Act->World->Prop} {Qm:Exit->Act->World->Prop}
theorem aan {κ:Key->KE} {e:fA} {vs:List Value} (h:vF κ g w I [e] vs) : ∃ v,vs=[v]/\jq κ g w I e v:=by
 match vs,h with
 | [v],h=>exact ⟨v,rfl,h.1⟩
theorem BQ {S:aA} {es:List LT} {v:Value} {rows:List (List T)} (h:aH w S (.sl es) v (.l rows)) :
  ∃ aa cap,v = .slice aa rows.length cap/\rows.length<=cap/\rows.length<=bC /\
   (rows=[] \/ ∃ b o,aa=some ⟨b,o,none⟩ /\ ∀ i (h:i<rows.length),dG w S S es b (o+i * es.length) rows[i]):=by
 unfold aH at h
 obtain ⟨aa,cap,rows',e1,hv,h1,h2,h3⟩:=h
 cases e1
 exact ⟨aa,cap,hv,h1,h2,h3⟩
theorem EC {S:aA} {es:List LT} {aa:Option Addr} {cap:Nat} {rows:List (List T)} (h1:rows.length<=cap) (h2:rows.length<=bC)
  (h3:rows=[] \/ ∃ b o,aa=some ⟨b,o,none⟩ /\ ∀ i (h:i<rows.length),dG w S S es b (o+i * es.length) rows[i]):aH w S (.sl es) (.slice aa rows.length cap) (.l rows):=by
 unfold aH
 exact ⟨aa,cap,rows,rfl,rfl,h1,h2,h3⟩
theorem Hl {e:fA} {v:Value} {d0:Nat} (hdst:o.dst=some d0) (hd:dI n.np n.nt o=true) (hR:R n σ g I a w) (hK:Post P n I w Q K)
  (hrun:(execOp a.eval o).run P w = .ok (.value v) w) (he:jq σ.k g w I e v) (h:(Prog.kV d0 e .ret).wp cf σ tr Q):Goal P o a w K Qm :=
 jD hd hR hK hrun he (by unfold put; rw [hdst]; exact h)
theorem afP (hΓ:eT Γ P) (hd:dI n.np n.nt o=true) (hR:R n σ g I a w) (hK:Post P n I w Q K) {c:Call} (hop:o.op = .call c) (hc:c.callee = .builtin .len)
  (h:(bD Γ f o).wp cf σ tr Q):Goal P o a w K Qm:=by
 simp only [bD,hop,hc] at h
 obtain ⟨t,ht,h⟩:=dR h
 obtain ⟨ti,-,hty,h⟩:=fM hΓ h
 obtain ⟨es,t1,hes,h⟩:=xW hR h
 split at h
 ·rename_i l _ _
  obtain ⟨v,hv,hl⟩:=aan hes
  have hargs:c.args.map a.eval = #[v]:=by
   apply Array.toList_inj.1; simpa using hv
  split at h
  ·rename_i hst hlt
   obtain ⟨hk,h⟩:=h
   obtain ⟨hs,hl⟩:=hl
   simp only [hst] at hl
   obtain ⟨s,e1,hl⟩:=hl
   rw [hlt] at e1
   cases e1
   obtain ⟨s,rfl,hd',hsz⟩:=hl
   rw [hd'] at h
   refine lG hd hR hK (s:=.int .i64) (Di hop hc (by rw [hargs]; exact UY ht (Hg hty (Ju hk)))) ⟨_,rfl,rfl,?_⟩ h
   have e1:IntKind.i64.min = -9223372036854775808:=by decide
   rw [e1,SC]
   simp only [T.str]
   omega
  ·obtain ⟨hk,h⟩:=h
   obtain ⟨es,rows,deps,t',h,nQ,-,-⟩:=pV hR hl h
   obtain ⟨aa,cap,rfl,h1,h2,-⟩:=BQ nQ
   obtain ⟨e,hk⟩:=rQ hk
   obtain ⟨hu,-⟩:=kY hty hk
   have h:=h (decide_eq_true h2)
   refine lG hd hR hK (s:=.int .i64) (Di hop hc (by rw [hargs]; exact run_len_slice ht hu)) ⟨_,rfl,rfl,?_⟩ h
   have e1:IntKind.i64.min = -9223372036854775808:=by decide
   unfold bC at h2
   rw [e1,SC]
   omega
 ·exact h.elim
theorem UZ (hR:R n σ g I a w) {e:fA} {v:Value} {k:Int->Prog} (he:jq σ.k g w I e v)
  (h:(uj e fun s t=>match s with | .int _=>k t.int | _=>.fail).wp cf σ tr Q) : ∃ kd x,v = .int kd x/\(k x).wp cf σ tr Q:=by
 obtain ⟨s,d,rfl,hv,h⟩:=nC he h
 split at h
 ·obtain ⟨x,hx,rfl,-⟩:=hv
  exact ⟨_,x,hx,h⟩
 ·exact h.elim
theorem uq (hR:R n σ g I a w) (lo hi:Option Operand) {FX Lb:Option fA} {nn:Nat} {k:Int->Int->Prog}
  (hlo : ∀ x,lo=some x->∃ e,FX=some e/\jq σ.k g w I e (a.eval x)) (BR:lo=none->FX=none)
  (hhi : ∀ x,hi=some x->∃ e,Lb=some e/\jq σ.k g w I e (a.eval x)) (Jv:hi=none->Lb=none)
  (h:(sliceBound Lb nn fun h=>sliceBound FX 0 fun a=>k h a).wp cf σ tr Q) :
  ∃ l hh,Dj (lo.map a.eval) 0 l/\Dj (hi.map a.eval) nn hh/\(k hh l).wp cf σ tr Q:=by
 have one : ∀ (x:Option Operand) (e:Option fA) (d:Int) (k:Int->Prog),(∀ y,x=some y->∃ e',e=some e'/\jq σ.k g w I e' (a.eval y))->(x=none->e=none) ->
   (sliceBound e d k).wp cf σ tr Q->∃ v,Dj (x.map a.eval) d v/\(k v).wp cf σ tr Q:=by
  intro x e d k h1 h2 h
  cases x with
  | none=>rw [h2 rfl] at h; exact ⟨d,.inl ⟨rfl,rfl⟩,h⟩
  | some y =>
   obtain ⟨e',rfl,he⟩:=h1 y rfl
   obtain ⟨kd,v,hv,h⟩:=UZ hR he h
   exact ⟨v,.inr ⟨kd,by simp [hv]⟩,h⟩
 obtain ⟨hh,h1,h⟩:=one hi Lb nn _ hhi Jv h
 obtain ⟨l,h2,h⟩:=one lo FX 0 _ hlo BR h
 exact ⟨l,hh,h2,h1,h⟩
theorem QI {S:aA} {es:List LT} {aa:Option Addr} {cap:Nat} {rows:List (List T)} {l h:Nat} (hl:aH w S (.sl es) (.slice aa rows.length cap) (.l rows)) (h1:h<=rows.length) (h2:l<=h) :
  aH w S (.sl es) (.slice (if cap=l then aa else aa.map (·.add (l * es.length))) (h-l) (cap-l)) (.l ((rows.take h).drop l)):=by
 obtain ⟨aa',cap',e1,h3,h4,h5⟩:=BQ hl
 cases e1
 have hlen:((rows.take h).drop l).length=h-l:=by simp; omega
 rw [<-hlen]
 refine EC (by omega) (by omega) ?_
 by_cases hz:h=l
 ·left; apply List.length_eq_zero_iff.1; omega
 ·rcases h5 with rfl | ⟨b,o,rfl,h5⟩
  ·simp at h1; omega
  ·right
   have hne:cap≠l:=by omega
   refine ⟨b,o+l * es.length,by simp [hne,addr_add],fun i hi=>?_⟩
   have hi':i+l<rows.length:=by omega
   have:=h5 (l+i) (by omega)
   have e1:(List.drop l (List.take h rows))[i]=rows[l+i]:=by
    simp [List.getElem_drop,List.getElem_take]
   rw [e1,Nat.add_assoc,<-Nat.add_mul]
   exact this
theorem zZ (hΓ:eT Γ P) (hd:dI n.np n.nt o=true) (hR:R n σ g I a w) (hK:Post P n I w Q K) {t:TypeId} {ti:TI} {x:Operand} {lo hi:Option Operand} {d0:Nat} (hop:o.op = .slice t x lo hi none)
  (hdst:o.dst=some d0) (hty:uo Γ P t ti) {e:fA} (he:jq σ.k g w I e (a.eval x)) {FX Lb:Option fA}
  (hlo : ∀ x,lo=some x->∃ e,FX=some e/\jq σ.k g w I e (a.eval x)) (BR:lo=none->FX=none)
  (hhi : ∀ x,hi=some x->∃ e,Lb=some e/\jq σ.k g w I e (a.eval x)) (Jv:hi=none->Lb=none)
  (h:(mM ti 0 d0 e FX Lb).wp cf σ tr Q):Goal P o a w K Qm:=by
 unfold mM at h
 obtain ⟨l,rfl,hl,h⟩:=BN he h
 simp only at h
 split at h
 ·rename_i hst hlt
  obtain ⟨hk,h⟩:=h
  obtain ⟨hs,hl⟩:=hl
  simp only [hst] at hl
  obtain ⟨s,e1,hl⟩:=hl
  rw [hlt] at e1
  cases e1
  obtain ⟨s,hx,hd',hsz⟩:=hl
  rw [hd'] at h
  obtain ⟨lv,hv,h1,h2,h3,h4,h⟩:=uq hR lo hi hlo BR hhi Jv h
  have h3:=of_decide_eq_true h3
  have h4:=of_decide_eq_true h4
  have hrun:=P5 (w:=w) hop hx (Hg hty (Ju hk)) h1 h2 h3 h4
  rw [<-hdst] at h
  refine lG hd hR hK (s:=.str) hrun ⟨_,rfl,rfl,?_⟩ h
  simp only [ByteArray.size_extract]
  omega
 ·obtain ⟨es,rows,deps,t',h,nQ,h1,h2⟩:=pV hR hl h
  obtain ⟨hk,h⟩:=h
  split at hk
  ·rename_i tes SL
   simp only [Bool.and_eq_true] at hk
   obtain ⟨hk,hlen⟩:=hk
   have hlen:=Nat.eq_of_beq_eq_true hlen
   obtain ⟨el,hk⟩:=rQ hk
   obtain ⟨hu,te,hte,hl',-⟩:=kY hty hk
   rw [SL] at hl'
   simp only [List.cons.injEq,LT.sl.injEq,and_true] at hl'
   subst hl'
   obtain ⟨aa,cap,hv,hcap,-,-⟩:=BQ nQ
   obtain ⟨lv,hv',hb1,hb2,hb3,hb4,h⟩:=uq hR lo hi hlo BR hhi Jv h
   have hb3:=of_decide_eq_true hb3
   have hb4:=of_decide_eq_true hb4
   have hrun:=BP hop hv hu (run_sizeOf (w:=w) (hΓ.ty _ _ hte)) hb1 hb2 hb3 hb4 hcap
   rw [<-hlen] at hrun
   rw [hv] at nQ
   have hfin:=QI (l:=lv.toNat) (h:=hv'.toNat) nQ (by omega) (by omega)
   exact Hl (e:=.one ⟨.sn deps,.sl es,.l ((rows.take hv'.toNat).drop lv.toNat)⟩) hdst hd hR hK hrun ⟨hfin.single,trivial,h2,fun _=>hfin⟩ h
  ·cases hk
theorem zh {ρ:Operand->Value} {s t:TypeId} {x:Operand} {v:Value} {w':World} (hop:o.op = .convert s t x) (h:(convert s t (ρ x)).run P w = .ok v w') :
  (execOp ρ o).run P w = .ok (.value v) w':=by
 simp only [execOp,hop]
 rw [Sem.run_bind,h]
 rfl
theorem Ho {S:aA} : ∀ (rows:List (List T)) (b o:Nat),(∀ i (h:i<rows.length),dG w S S [.sc (.int .u8)] b (o+i * 1) rows[i]) ->
  ∃ ns:List Int,bL w b o (ns.map (Value.int .u8))/\ns.length=rows.length/\pQ rows=⟨(ns.map fun n=>UInt8.ofNat n.toNat).toArray⟩
 | [],b,o,_=>⟨[],trivial,rfl,rfl⟩
 | r::rs,b,o,h=>by
  have h0:=h 0 (by simp)
  unfold dG at h0
  obtain ⟨d,rest,v,e1,-,hc,hl,-⟩:=h0
  unfold aH at hl
  obtain ⟨x,rfl,rfl,-⟩:=hl
  obtain ⟨ns,h1,h2,h3⟩:=Ho rs b (o+1) fun i hi=>by
   have:=h (i+1) (by simpa using hi)
   rw [show o+1+i * 1=o+(i+1) * 1 from by omega]
   simpa using this
  refine ⟨x::ns,⟨by simpa using hc,h1⟩,by simp [h2],?_⟩
  simp only [List.getElem_cons_zero] at e1
  unfold pQ at h3 ⊢
  have h3:=List.toArray_inj (ByteArray.mk.inj h3)
  rw [List.map_cons,List.map_cons,h3,e1]
  rfl
theorem foldl_push (ns:List Int) : ∀ (acc:ByteArray),ns.foldl (fun r n=>r.push (UInt8.ofNat n.toNat)) acc=⟨(acc.data.toList++ns.map fun n=>UInt8.ofNat n.toNat).toArray⟩:=by
 induction ns with
 | nil=>intro acc; simp
 | cons n ns ih =>
  intro acc
  simp only [List.foldl_cons,ih]
  obtain ⟨data⟩:=acc
  simp [ByteArray.push]
theorem SN {S:aA} {v:Value} {rows:List (List T)} (h:aH w S (.sl [.sc (.int .u8)]) v (.l rows)) :
  (Conv.bytesToString v).run P w = .ok (.string (pQ rows)) w/\(pQ rows).size=rows.length:=by
 obtain ⟨aa,cap,rfl,h1,h2,h3⟩:=BQ h
 have hsz:(pQ rows).size=rows.length:=by simp [pQ,ByteArray.size]
 refine ⟨?_,hsz⟩
 rcases h3 with rfl | ⟨b,o,rfl,h3⟩
 ·cases aa with
  | none=>simp [Conv.bytesToString,pQ]; rfl
  | some aa =>
   have:=run_bytesToString (P:=P) w aa 0 cap [] (by simp [loadCells,loadCellsFrom])
   exact this.trans rfl
 ·obtain ⟨ns,h4,h5,h6⟩:=Ho rows b o (by simpa using h3)
  have:=run_bytesToString (P:=P) w ⟨b,o,none⟩ rows.length cap ns (by
   have:=run_loadCells (P:=P) h4
   simpa [h5] using this)
  rw [this,h6,foldl_push]
  simp
theorem Nl {k:TK} (h:Mc k=true):k = .sc (.int .u8):=by
 unfold Mc at h
 split at h
 ·rfl
 ·cases h
theorem Lc (hΓ:eT Γ P) (hd:dI n.np n.nt o=true) (hR:R n σ g I a w) (hK:Post P n I w Q K) {s t:TypeId} {ts tt:TI} {x:Operand} {d0:Nat} (hop:o.op = .convert s t x)
  (hdst:o.dst=some d0) (hts:uo Γ P s ts) (htt:uo Γ P t tt) {e:fA} (he:jq σ.k g w I e (a.eval x)) (hno : ¬ (ts.kind = .sc .str /\ ∃ el,tt.kind = .slice el))
  (h:(DC Γ d0 ts tt e).wp cf σ tr Q):Goal P o a w K Qm:=by
 obtain ⟨ds,hus,hks⟩:=hts.und
 obtain ⟨dt,hut,hkt⟩:=htt.und
 unfold DC at h
 split at h
 ·rename_i k k' e1 e2
  rw [e1] at hks; rw [e2] at hkt
  obtain ⟨rfl,-⟩:=hks
  obtain ⟨rfl,-⟩:=hkt
  obtain ⟨st,d,rfl,hv,h⟩:=nC he h
  split at h
  ·rw [<-hdst] at h
   obtain ⟨i,hv,rfl,-⟩:=hv
   exact lG hd hR hK (s:=.int k') (v:=.int k' (k'.wrap i)) (zh hop (by rw [hv]; simp [convert,run_underlying hus,run_underlying hut,Conv.intToInt])) vZ h
  ·exact h.elim
 ·rename_i e1 e2
  rw [e1] at hks; rw [e2] at hkt
  obtain ⟨rfl,-⟩:=hks
  obtain ⟨rfl,-⟩:=hkt
  obtain ⟨st,d,rfl,hv,h⟩:=nC he h
  split at h
  ·rw [<-hdst] at h
   have hv':=hv
   obtain ⟨i,hv,rfl,-⟩:=hv
   exact lG hd hR hK (s:=.str) (v:=.string i) (zh hop (by rw [hv]; simp [convert,run_underlying hus,run_underlying hut])) (by rw [<-hv]; exact hv') h
  ·exact h.elim
 ·rename_i e1 e2; exact absurd ⟨e1,_,e2⟩ hno
 ·rename_i el e1 e2
  rw [e1] at hks; rw [e2] at hkt
  obtain ⟨rfl,-⟩:=hks
  obtain ⟨rfl,-⟩:=hkt
  obtain ⟨te,-,hte,h⟩:=fM hΓ h
  obtain ⟨hb,h⟩:=h
  obtain ⟨de,hue,hke⟩:=hte.und
  rw [Nl hb] at hke
  obtain ⟨rfl,-⟩:=hke
  obtain ⟨l,rfl,hl,h⟩:=BN he h
  obtain ⟨es,rows,deps,t',h,nQ,-,-⟩:=pV hR hl h
  split at h
  ·rw [<-hdst] at h
   obtain ⟨h1,h2⟩:=SN (P:=P) nQ
   obtain ⟨aa,cap,hv,hc1,hc2,-⟩:=BQ nQ
   refine lG hd hR hK (s:=.str) (zh hop (v:=.string (pQ rows)) ?_) ⟨_,rfl,rfl,?_⟩ h
   ·rw [hv] at h1 ⊢
    rw [run_convert_bytes_string (P:=P) w s t el aa _ _ hus hue hut]
    exact h1
   ·unfold bC at hc2
    omega
  ·exact h.elim
 ·exact h.elim
end
end Go.E

namespace Go.E
open Go
theorem Keeps.weaken {A B:aA} {w w':World} (h:Keeps A w w') (hab : ∀ b o,B b o->A b o):Keeps B w w' :=
 ⟨h.size,fun b x hx=>by
  obtain ⟨y,hy,hk⟩:=h.obj b x hx
  refine ⟨y,hy,?_⟩
  cases x <;> simp only [oC] at hk ⊢ <;> try exact hk
  obtain ⟨c',h1,h2,h3⟩:=hk
  exact ⟨c',h1,h2,fun o ho=>h3 o (hab b o ho)⟩,h.os,h.output,h.tape⟩
def Gh.set (g:Gh) (k:Key) (h:Value) (F:aA):Gh:=⟨fun u=>if u=k then h else g.h u,fun u=>if u=k then F else g.F u,g.D⟩
@[simp] theorem Gh.mO (g:Gh) (k:Key) (h:Value) (F:aA):(g.set k h F).h k=h:=by simp [Gh.set]
@[simp] theorem Gh.jl (g:Gh) (k:Key) (h:Value) (F:aA):(g.set k h F).F k=F:=by simp [Gh.set]
theorem Gh.wh (g:Gh) {k u:Key} (h:Value) (F:aA) (hu:u≠k):(g.set k h F).h u=g.h u:=by simp [Gh.set,hu]
theorem Gh.sM (g:Gh) {k u:Key} (h:Value) (F:aA) (hu:u≠k):(g.set k h F).F u=g.F u:=by simp [Gh.set,hu]
theorem aO (σ:S) (k:Key) (e:KE):(σ.bF k e).k k=e:=by simp [S.bF,fI]
theorem aL (σ:S) {k u:Key} (e:KE) (h:u≠k):(σ.bF k e).k u=σ.k u:=by
 have:dM u k=false:=by
  cases hb:dM u k
  ·rfl
  ·exact absurd ((eD _ _).1 hb) h
 simp [S.bF,this]
section
variable {P:Program} {w w':World} {I I' A:aA} {κ κ':Key->KE} {g g':Gh}
theorem rT {n:Fr} {σ:S} {a:Act} (hR:R n σ g I a w) {k:Key} (hl:Live (σ.k k).ch) {b o:Nat} (hf:g.F k b o) : ∃ v,cellAt w b o=some v:=by
 have h:=hR.tL k
 cases hc:(σ.k k).ch with
 | gone=>rw [hc] at hl; exact hl.elim
 | fz es rows=>rw [hc] at hl; exact hl.elim
 | box ls =>
  rw [hc] at h
  obtain ⟨b',o',c,el,fz,-,h1,h2,-,h3,-⟩:=h
  obtain ⟨rfl,h4,h5⟩:=(h3 b o).1 hf
  rw [kX h1]
  exact ⟨_,Array.getElem?_eq_getElem (by omega)⟩
 | row es ms rows =>
  rw [hc] at h
  exact aS.cell h hf
 | Jk m j ls =>
  rw [hc] at h
  obtain ⟨⟨b',o',c,el,fz,-,h1,h2,-,h3,-⟩,-⟩:=h
  obtain ⟨rfl,h4,h5⟩:=(h3 b o).1 hf
  rw [kX h1]
  exact ⟨_,Array.getElem?_eq_getElem (by omega)⟩
 | hol es ms rows r j =>
  rw [hc] at h
  obtain ⟨-,-,-,b',cap,c,el,fz,B1,B2,-,-,h1,-,-,-,-,-,h3,-⟩:=h
  rcases (h3 b o).1 hf with ⟨rfl,h4,-⟩ | h4
  ·rw [kX h1]
   exact ⟨_,Array.getElem?_eq_getElem h4⟩
  ·exact SE h4
theorem mg {b o:Nat} (h : ∃ v,cellAt w b o=some v):b<w.heap.size:=by
 obtain ⟨v,h⟩:=h
 unfold cellAt World.cell? at h
 simp only at h
 split at h
 ·rename_i hb
  exact (Array.getElem?_eq_some_iff.1 hb).1
 ·cases h
theorem lF.keep {ls:List Leaf} {h:Value} {F:aA} (e:fZ κ g w I κ' g' w' I') (hr:lF κ g w I ls h F) (hk:Keeps A w w') (hA : ∀ b o,F b o->A b o) :
  lF κ' g' w' I' ls h F:=by
 obtain ⟨b,o,c,el,fz,h1,h2,h3,h4,h5,h6⟩:=hr
 obtain ⟨c',h7,h8,h9⟩:=hk.block h2
 refine ⟨b,o,c',el,fz,h1,h7,by omega,h4,h5,?_⟩
 have:(c'.toList.drop o).take ls.length=(c.toList.drop o).take ls.length:=by
  apply List.ext_getElem?
  intro i
  by_cases hi:i<ls.length
  ·rw [List.getElem?_take_of_lt hi,List.getElem?_take_of_lt hi,List.getElem?_drop,List.getElem?_drop,Array.getElem?_toList,Array.getElem?_toList]
   exact h9 _ (hA _ _ ((h5 b (o+i)).2 ⟨rfl,by omega,by omega⟩))
  ·rw [List.getElem?_eq_none (by simp; omega),List.getElem?_eq_none (by simp; omega)]
 rw [this]
 exact e.UK h6
theorem M8.keep {k:Key} {m j:Nat} {ls:List Leaf} {h:Value} {F:aA} (e:fZ κ g w I κ' g' w' I') (hr:M8 κ g w I k m j ls h F) (hk:Keeps A w w') (hA : ∀ b o,F b o->A b o) :
  M8 κ' g' w' I' k m j ls h F:=by
 obtain ⟨⟨b,o,c,el,fz,h1,h2,h3,h4,h5,h6⟩,h7,h8⟩:=hr
 obtain ⟨c',h9,h10,h11⟩:=hk.block h2
 refine ⟨⟨b,o,c',el,fz,h1,h9,by omega,h4,h5,?_⟩,Nat.le_trans h7 (e.bO _),fun hi=>?_⟩
 ·have:(c'.toList.drop (o+m)).take ls.length=(c.toList.drop (o+m)).take ls.length:=by
   apply List.ext_getElem?
   intro i
   by_cases hi:i<ls.length
   ·rw [List.getElem?_take_of_lt hi,List.getElem?_take_of_lt hi,List.getElem?_drop,List.getElem?_drop,Array.getElem?_toList,Array.getElem?_toList]
    exact h11 _ (hA _ _ ((h5 b (o+m+i)).2 ⟨rfl,by omega,by omega⟩))
   ·rw [List.getElem?_eq_none (by simp; omega),List.getElem?_eq_none (by simp; omega)]
  rw [this]
  exact e.UK h6
 ·have h12:(κ (mI k)).bO=j:=by have:=e.bO (mI k); omega
  rw [(e.head _ (hi.trans h12.symm)).1]; exact h8 h12
theorem M9.keep {k:Key} {es:List LT} {ms:List M} {rows:List (List T)} {r j:Nat} {h:Value} {F:aA} (e:fZ κ g w I κ' g' w' I') (hr:M9 κ g w I k es ms rows r j h F) (hk:Keeps A w w') (hA : ∀ b o,F b o->A b o) :
  M9 κ' g' w' I' k es ms rows r j h F:=by
 obtain ⟨h0,h1,h2,b,cap,c,el,fz,B1,B2,h3,h4,h5,h6,h7,h8,h9,h10,h11,h12,h13⟩:=hr
 obtain ⟨c',hb,hsz,hcc⟩:=hk.block h5
 have hb1 : ∀ b∈B1++B2,∃ c el fz,Block w b c el fz:=fun x hx=>(List.mem_append.1 hx).elim (nD (I:=I) (fun vs ds bs h=>ak.blocks es h) _ h8 x) (nD (I:=I) (fun vs ds bs h=>ak.blocks es h) _ h9 x)
 have hcell : ∀ o,o<c.size->¬ (r * es.length<=o/\o<(r+1) * es.length)->c'[o]? = c[o]?:=fun o ho hn=>hcc o (hA _ _ ((h11 b o).2 (.inl ⟨rfl,ho,hn⟩)))
 have hF : ∀ x∈[B1,B2],∀ b o,FB w x b o->A b o:=fun x hx b o hf=>hA b o ((h11 b o).2 (.inr (qX (fun y hy=>by
  rcases List.mem_cons.1 hx with rfl | hx
  ·simp [hy]
  ·rw [List.mem_singleton.1 hx] at hy; simp [hy]) b o hf)))
 have hm:(r+1) * es.length<=cap * es.length:=Nat.mul_le_mul_right _ (by omega)
 have hr1:(rows.take r).length=r:=by rw [List.length_take]; omega
 refine ⟨h0,h1,h2,b,cap,c',el,fz,B1,B2,h3,h4,hb,hsz.trans h6,by rw [hsz]; exact h7,?_,?_,pU hk (fun x hx=>by
  rcases List.mem_cons.1 hx with rfl | hx
  ·exact ⟨c,el,fz,h5⟩
  ·exact hb1 x hx) h10,fun b' o'=>?_,Nat.le_trans h12 (e.bO _),fun hi=>?_⟩
 ·refine aK.cells (aK.imp (fun vs ds b' hb' h=>ak.keep hk e.jh es (fun b o hf=>hF B1 (by simp) b o (qX hb' b o hf)) h) h8) ?_
  rw [hr1]
  apply List.ext_getElem?
  intro i
  by_cases hi:i<r * es.length
  ·rw [List.getElem?_take_of_lt hi,List.getElem?_take_of_lt hi,Array.getElem?_toList,Array.getElem?_toList]
   exact hcell i (by rw [Nat.add_mul,Nat.one_mul] at hm; omega) (by omega)
  ·rw [List.getElem?_eq_none (by simp; omega),List.getElem?_eq_none (by simp; omega)]
 ·refine aK.cells (aK.imp (fun vs ds b' hb' h=>ak.keep hk e.jh es (fun b o hf=>hF B2 (by simp) b o (qX hb' b o hf)) h) h9) ?_
  congr 1
  apply List.ext_getElem?
  intro i
  rw [List.getElem?_drop,List.getElem?_drop,Array.getElem?_toList,Array.getElem?_toList]
  by_cases hi:(r+1) * es.length+i<c.size
  ·exact hcell _ hi (by omega)
  ·rw [Array.getElem?_eq_none (by omega),Array.getElem?_eq_none (by omega)]
 ·rw [h11,hsz,DN hk hb1]
 ·have h14:(κ (iG k)).bO=j:=by have:=e.bO (iG k); omega
  rw [(e.head _ (hi.trans h14.symm)).1]; exact h13 h14
theorem Fx.keep {k:Key} {ch:Ch} (e:fZ κ g w I κ' g' w' I') (hk:Keeps A w w') (hA:Live ch->∀ b o,g.F k b o->A b o) (h1:g'.h k=g.h k) (h2:g'.F k=g.F k)
  (h:Fx κ g w I k ch):Fx κ' g' w' I' k ch:=by
 cases ch with
 | gone=>trivial
 | fz es rows=>simp only [Fx] at h ⊢; rw [h1]; exact e.leaf h
 | box ls=>simp only [Fx] at h ⊢; rw [h1,h2]; exact h.keep e hk (hA trivial)
 | row es ms rows=>simp only [Fx] at h ⊢; rw [h1,h2]; exact h.keep hk (hA trivial) e.jh
 | Jk m j ls=>simp only [Fx] at h ⊢; rw [h1,h2]; exact h.keep e hk (hA trivial)
 | hol es ms rows r j=>simp only [Fx] at h ⊢; rw [h1,h2]; exact h.keep e hk (hA trivial)
end
section
variable {n:Fr} {σ:S} {g:Gh} {I:aA} {a:Act} {w w':World}
theorem Keeps.qC {w w':World} (h:Keeps (fun _ _=>True) w w') {b o:Nat} (hv : ∃ v,cellAt w b o=some v):cellAt w' b o=cellAt w b o:=h.cell trivial hv
theorem aed (hR:R n σ g I a w) (k:Key) (e:KE) (h:Value) (F:aA) (h1:(σ.k k).bO<e.bO) (h2:(σ.k k).cv<e.cv) (hk:Keeps (fun _ _=>True) w w') :
  fZ σ.k g w I (σ.bF k e).k (g.set k h F) w' I where
 cv u:=by by_cases hu:u=k; subst hu; rw [aO]; omega; rw [aL _ _ hu]; exact Nat.le_refl _
 bO u:=by by_cases hu:u=k; subst hu; rw [aO]; omega; rw [aL _ _ hu]; exact Nat.le_refl _
 foot u hc hl b o hf:=by
  by_cases hu:u=k
  ·subst hu; rw [aO] at hc; omega
  ·rw [aL _ _ hu,Gh.sM _ _ _ hu]
   exact ⟨.inl ⟨hl,hf⟩,hk.qC (rT hR hl hf)⟩
 head u hc:=by
  by_cases hu:u=k
  ·subst hu; rw [aO] at hc; omega
  ·rw [aL _ _ hu,Gh.wh _ _ _ hu]
   exact ⟨rfl,rfl⟩
 jh b o h:=⟨h,hk.qC (hR.xS b o h)⟩
 dd b o h:=⟨h,hk.qC (hR.x.XE b o (hR.x.da b o h))⟩
theorem R.touch (hR:R n σ g I a w) {σ':S} {g':Gh} {I':aA} (T:Key->Prop) (Z:aA) (hs:σ'.s=σ.s) (hD:g'.D=g.D)
  (hsame : ∀ k,¬ T k->σ'.k k=σ.k k/\g'.h k=g.h k/\g'.F k=g.F k)
  (hT : ∀ k,T k->(σ.k k).cv<(σ'.k k).cv/\(σ.k k).bO<=(σ'.k k).bO/\((σ'.k k).bO=(σ.k k).bO->g'.h k=g.h k/\lC (σ'.k k).ch=lC (σ.k k).ch))
  (hpar : ∀ k,T k->gq n.np k->Live (σ'.k k).ch->g'.h k=n.H k)
  (hF : ∀ k,T k->Live (σ'.k k).ch->∀ b o,g'.F k b o->Z b o\/w.heap.size<=b)
  (hsep : ∀ k k',T k->T k'->Live (σ'.k k).ch->Live (σ'.k k').ch->k≠k'->aA.apart (g'.F k) (g'.F k'))
  (hZ : ∀ u,¬ T u->Live (σ.k u).ch->aA.apart (g.F u) Z) (hZI:aA.apart Z I) (hZA:aA.apart Z n.A)
  (hk:Keeps (fun b o=>¬ Z b o) w w')
  (hi1 : ∀ b o,I b o->I' b o) (hi2 : ∀ b o,I' b o->I b o\/Z b o\/w.heap.size<=b) (hi3 : ∀ k,T k->Live (σ'.k k).ch->aA.apart (g'.F k) I') (hi4 : ∀ b o,I' b o->∃ v,cellAt w' b o=some v)
  (hch:fZ σ.k g w I σ'.k g' w' I'->∀ k,T k->Fx σ'.k g' w' I' k (σ'.k k).ch):R n σ' g' I' a w'/\fZ σ.k g w I σ'.k g' w' I':=by
 have ev:fZ σ.k g w I σ'.k g' w' I':=by
  refine ⟨fun k=>?_,fun k=>?_,fun k hc hl b o hf=>?_,fun k hc=>?_,fun b o h=>⟨hi1 b o h,hk.cell (fun hz=>hZI b o hz h) (hR.xS b o h)⟩,fun b o h=>⟨hD ▸ h,hk.cell (fun hz=>hZA b o hz (hR.x.da b o h)) (hR.x.XE b o (hR.x.da b o h))⟩⟩
  ·by_cases ht:T k
   ·exact Nat.le_of_lt (hT k ht).1
   ·rw [(hsame k ht).1]; exact Nat.le_refl _
  ·by_cases ht:T k
   ·exact (hT k ht).2.1
   ·rw [(hsame k ht).1]; exact Nat.le_refl _
  ·by_cases ht:T k
   ·have:=(hT k ht).1; omega
   ·rw [(hsame k ht).1,(hsame k ht).2.2]
    exact ⟨.inl ⟨hl,hf⟩,hk.cell (fun hz=>hZ k ht hl b o hf hz) (rT hR hl hf)⟩
  ·by_cases ht:T k
   ·exact (hT k ht).2.2 hc
   ·rw [(hsame k ht).1]; exact ⟨(hsame k ht).2.1,rfl⟩
 have hap : ∀ u,¬ T u->Live (σ.k u).ch->∀ k,T k->Live (σ'.k k).ch->∀ b o,g.F u b o->g'.F k b o->False:=fun u hu hl k hk' hlk b o hfu hf=>by
  rcases hF k hk' hlk b o hf with hh | hh
  ·exact hZ u hu hl b o hfu hh
  ·have:=mg (rT hR hl hfu); omega
 refine ⟨⟨hR.size,hR.nd,fun t=>by rw [hs]; exact ev.ent (hR.slots t),fun u=>?_,fun u v hu hv huv=>?_,fun u hu=>?_,hi4,hR.x.step (hk.weaken fun b o ha hz=>hZA b o hz ha) hD (fun u hu=>?_) (fun b o hi=>?_)⟩,ev⟩
 ·by_cases ht:T u
  ·exact hch ev u ht
  ·obtain ⟨h1,h2,h3⟩:=hsame u ht
   rw [h1]
   exact Fx.keep ev hk (fun hl b o hf hz=>hZ u ht hl b o hf hz) h2 h3 (hR.tL u)
 ·by_cases ht:T u
  ·by_cases hv':T v
   ·exact hsep u v ht hv' hu hv huv
   ·rw [(hsame v hv').1] at hv
    rw [(hsame v hv').2.2]
    exact fun b o h1 h2=>hap v hv' hv u ht hu b o h2 h1
  ·rw [(hsame u ht).1] at hu
   rw [(hsame u ht).2.2]
   by_cases hv':T v
   ·exact hap u ht hu v hv' hv
   ·rw [(hsame v hv').1] at hv
    rw [(hsame v hv').2.2]
    exact hR.sep u v hu hv huv
 ·by_cases ht:T u
  ·exact hi3 u ht hu
  ·rw [(hsame u ht).1] at hu
   rw [(hsame u ht).2.2]
   intro b o hf hi
   rcases hi2 b o hi with hi | hi | hi
   ·exact hR.jh u hu b o hf hi
   ·exact hZ u ht hu b o hf hi
   ·have:=mg (rT hR hu hf); omega
 ·by_cases ht:T u
  ·refine ⟨fun hp=>.inr (hpar u ht hp hu),fun b o hf ha=>?_⟩
   rcases hF u ht hu b o hf with hz | hz
   ·exact hZA b o hz ha
   ·have:=mg (hR.x.XE b o ha); omega
  ·rw [(hsame u ht).1] at hu
   rw [(hsame u ht).2.1,(hsame u ht).2.2]
   exact ⟨fun _=>.inl ⟨hu,rfl⟩,hR.x.vC u hu⟩
 ·rcases hi2 b o hi with hi | hi | hi
  ·exact .inl hi
  ·exact .inr fun ha=>hZA b o hi ha
  ·exact .inr fun ha=>by have:=mg (hR.x.XE b o ha); omega
theorem R.abU (hR:R n σ g I a w) (k:Key) (e:KE) (h:Value) (F:aA) (h1:(σ.k k).bO<e.bO) (h2:(σ.k k).cv<e.cv) (hk:Keeps (fun _ _=>True) w w')
  (hkp : ¬ gq n.np k) (hF : ∀ b o,F b o->w.heap.size<=b) (hch:Fx (σ.bF k e).k (g.set k h F) w' I k e.ch):R n (σ.bF k e) (g.set k h F) I a w':=by
 refine (hR.touch (σ':=σ.bF k e) (g':=g.set k h F) (I':=I) (w':=w') (fun u=>u=k) (fun _ _=>False) rfl rfl (fun u hu=>⟨aL _ _ hu,Gh.wh _ _ _ hu,Gh.sM _ _ _ hu⟩) (fun u hu=>?_) (fun u hu hp=>?_) (fun u hu _ b o hf=>?_) (fun u v hu hv _ _ hne=>?_)
  (fun _ _ _ _ _ _ h=>h) (fun _ _ h _=>h) (fun _ _ h _=>h) (hk.weaken fun _ _ _=>trivial) (fun _ _ h=>h) (fun _ _ h=>.inl h) (fun u hu _ b o hf hi=>?_) (fun b o hi=>?_) (fun _ u hu=>?_)).1
 ·subst hu; rw [aO]; exact ⟨h2,Nat.le_of_lt h1,fun h=>by omega⟩
 ·subst hu; exact absurd hp hkp
 ·subst hu; rw [Gh.jl] at hf; exact .inr (hF b o hf)
 ·exact absurd (hu.trans hv.symm) hne
 ·subst hu; rw [Gh.jl] at hf
  have:=mg (hR.xS b o hi); have:=hF b o hf; omega
 ·obtain ⟨v,hv⟩:=hR.xS b o hi
  exact ⟨v,(hk.qC ⟨v,hv⟩).trans hv⟩
 ·subst hu; rw [aO]; exact hch
theorem R.world (hR:R n σ g I a w) (hk:Keeps (fun _ _=>True) w w'):R n σ g I a w':=by
 have ev:fZ σ.k g w I σ.k g w' I:=⟨fun _=>Nat.le_refl _,fun _=>Nat.le_refl _,fun u _ hl b o hf=>⟨.inl ⟨hl,hf⟩,hk.qC (rT hR hl hf)⟩,fun _ _=>⟨rfl,rfl⟩,
  fun b o h=>⟨h,hk.qC (hR.xS b o h)⟩,fun b o h=>⟨h,hk.qC (hR.x.XE b o (hR.x.da b o h))⟩⟩
 refine ⟨hR.size,hR.nd,fun t=>ev.ent (hR.slots t),fun u=>Fx.keep ev hk (fun _ _ _ _=>trivial) rfl rfl (hR.tL u),hR.sep,hR.jh,fun b o hi=>?_,hR.x.step (hk.weaken fun _ _ _=>trivial) rfl (fun k h=>⟨fun _=>.inl ⟨h,rfl⟩,hR.x.vC k h⟩) (fun _ _ h=>.inl h)⟩
 obtain ⟨v,hv⟩:=hR.xS b o hi
 exact ⟨v,(hk.qC ⟨v,hv⟩).trans hv⟩
theorem rU (w:World) (m:Nat):Keeps (fun _ _=>True) w { w with drawn:=m }:=⟨Nat.le_refl _,fun b x h=>⟨x,h,.refl _ _ _⟩,rfl,rfl,rfl⟩
def World.pushed (w:World) (o:Obj):World:={ w with heap:=w.heap.push o }
theorem oO (w:World) (o:Obj):Keeps (fun _ _=>True) w (World.pushed w o) :=
 ⟨by simp [World.pushed],fun b x h=>⟨x,by
  have hlt:=(Array.getElem?_eq_some_iff.1 h).1
  simp only [World.pushed,Array.getElem?_push_lt hlt]
  rw [<-h,Array.getElem?_eq_getElem hlt],.refl _ _ _⟩,rfl,rfl,rfl⟩
theorem sN (w:World) (c:Array Value) (el:TypeId) (fz:Nat×Nat):Block (World.pushed w (.cells c el fz)) w.heap.size c el fz:=by
 unfold Block World.pushed
 simp only [Array.getElem?_push_size]
theorem qY {P:Program} {el:TypeId} {c:Array Value} : (newRow el c).run P w = .ok ⟨w.heap.size,0,none⟩ (World.pushed w (.cells c el)):=by
 simp only [newRow,newObj]
 rfl
end
end Go.E

namespace Go.E
open Go
section
variable {n:Fr} {σ:S} {g:Gh} {I:aA} {a:Act} {w w':World}
theorem R.freeze (hR:R n σ g I a w) {key:Key} {es:List LT} {ms:List M} {rows:List (List T)} (hc:(σ.k key).ch = .row es ms rows) :
  R n (σ.bF key { σ.k key with ch:=.fz es rows }) g (fun b o=>I b o\/g.F key b o) a w /\
  fZ σ.k g w I (σ.bF key { σ.k key with ch:=.fz es rows }).k g w (fun b o=>I b o\/g.F key b o):=by
 have ev:fZ σ.k g w I (σ.bF key { σ.k key with ch:=.fz es rows }).k g w (fun b o=>I b o\/g.F key b o):=by
  refine ⟨fun u=>?_,fun u=>?_,fun u hcv hl b o hf=>?_,fun u hid=>?_,fun b o h=>⟨.inl h,rfl⟩,fun b o h=>⟨h,rfl⟩⟩
  ·by_cases hu:u=key
   ·subst hu; rw [aO]; exact Nat.le_refl _
   ·rw [aL _ _ hu]; exact Nat.le_refl _
  ·by_cases hu:u=key
   ·subst hu; rw [aO]; exact Nat.le_refl _
   ·rw [aL _ _ hu]; exact Nat.le_refl _
  ·by_cases hu:u=key
   ·subst hu; exact ⟨.inr (.inr hf),rfl⟩
   ·rw [aL _ _ hu]; exact ⟨.inl ⟨hl,hf⟩,rfl⟩
  ·by_cases hu:u=key
   ·subst hu; rw [aO,hc]; exact ⟨rfl,rfl⟩
   ·rw [aL _ _ hu]; exact ⟨rfl,rfl⟩
 refine ⟨⟨hR.size,hR.nd,fun t=>ev.ent (hR.slots t),fun u=>?_,fun u v hu hv huv=>?_,fun u hu=>?_,fun b o hi=>?_,hR.x.step (Keeps.refl _ _) rfl (fun u hu=>?_) (fun b o hb=>?_)⟩,ev⟩
 ·by_cases QJ:u=key
  ·subst QJ
   rw [aO]
   have:=hR.tL u
   rw [hc] at this
   exact aS.leaf this (fun _ _ h=>.inl h) (fun _ _ h=>.inr h)
  ·rw [aL _ _ QJ]
   exact Fx.keep ev (Keeps.refl (fun _ _=>True) w) (fun _ _ _ _=>trivial) rfl rfl (hR.tL u)
 ·have hu':u≠key:=by rintro rfl; rw [aO] at hu; exact hu
  have hv':v≠key:=by rintro rfl; rw [aO] at hv; exact hv
  rw [aL _ _ hu'] at hu
  rw [aL _ _ hv'] at hv
  exact hR.sep u v hu hv huv
 ·have hu':u≠key:=by rintro rfl; rw [aO] at hu; exact hu
  rw [aL _ _ hu'] at hu
  intro b o hf hi
  rcases hi with hi | hi
  ·exact hR.jh u hu b o hf hi
  ·exact hR.sep u key hu (by rw [hc]; trivial) hu' b o hf hi
 ·rcases hi with hi | hi
  ·exact hR.xS b o hi
  ·exact rT hR (by rw [hc]; trivial) hi
 ·have hu':u≠key:=by rintro rfl; rw [aO] at hu; exact hu
  rw [aL _ _ hu'] at hu
  exact ⟨fun _=>.inl ⟨hu,rfl⟩,hR.x.vC u hu⟩
 ·exact hb.imp id fun hf ha=>hR.x.vC key (by rw [hc]; trivial) b o hf ha
variable {cf:FuncId->List Arg->R3 gu} {Q:S->Tr->Prop}
structure BS (n:Fr) (σ:S) (g:Gh) (I:aA) (Z:aA):Prop where
 live : ∀ u,Live (σ.k u).ch->aA.apart (g.F u) Z
 jh:aA.apart Z I
 vC:aA.apart Z n.A
theorem BS.none:BS n σ g I (fun _ _=>False):=⟨fun _ _ _ _ _ h=>h,fun _ _ h _=>h,fun _ _ h _=>h⟩
theorem BS.sub {Z Z':aA} (h:BS n σ g I Z) (hs : ∀ b o,Z' b o->Z b o):BS n σ g I Z' :=
 ⟨fun u hu b o h1 h2=>h.live u hu b o h1 (hs b o h2),fun b o h1 h2=>h.jh b o (hs b o h1) h2,fun b o h1 h2=>h.vC b o (hs b o h1) h2⟩
theorem BS.frz {Z:aA} (h:BS n σ g I Z) {key:Key} {es:List LT} {ms:List M} {rows:List (List T)} (hc:(σ.k key).ch = .row es ms rows):BS n (σ.bF key { σ.k key with ch:=.fz es rows }) g (fun b o=>I b o\/g.F key b o) Z:=by
 refine ⟨fun u hu=>?_,fun b o h1 h2=>?_,h.vC⟩
 ·by_cases QJ:u=key
  ·subst QJ; rw [aO] at hu; exact hu.elim
  ·rw [aL _ _ QJ] at hu; exact h.live u hu
 ·rcases h2 with h2 | h2
  ·exact h.jh b o h1 h2
  ·exact h.live key (by rw [hc]; trivial) b o h2 h1
theorem R.gone (hR:R n σ g I a w) (k:Key):R n (σ.bF k ⟨.gone,(σ.k k).bO+1,(σ.k k).cv+1⟩) g I a w /\
  fZ σ.k g w I (σ.bF k ⟨.gone,(σ.k k).bO+1,(σ.k k).cv+1⟩).k g w I:=by
 have nl : ¬ Live ((σ.bF k ⟨.gone,(σ.k k).bO+1,(σ.k k).cv+1⟩).k k).ch:=by rw [aO]; exact id
 refine hR.touch (σ':=σ.bF k ⟨.gone,(σ.k k).bO+1,(σ.k k).cv+1⟩) (g':=g) (I':=I) (w':=w) (fun u=>u=k) (fun _ _=>False) rfl rfl (fun u hu=>⟨aL _ _ hu,rfl,rfl⟩) (fun u hu=>?_) (fun u hu _ hl=>?_) (fun u hu hl=>?_) (fun u v hu _ hl=>?_)
  (fun _ _ _ _ _ _ h=>h) (fun _ _ h _=>h) (fun _ _ h _=>h) (Keeps.refl _ _) (fun _ _ h=>h) (fun _ _ h=>.inl h) (fun u hu hl=>?_) hR.xS (fun _ u hu=>?_)
 ·subst hu; rw [aO]; exact ⟨Nat.lt_succ_self _,Nat.le_succ _,fun h=>by have h:(σ.k u).bO+1=(σ.k u).bO:=h; omega⟩
 ·subst hu; exact (nl hl).elim
 ·subst hu; exact (nl hl).elim
 ·subst hu; exact (nl hl).elim
 ·subst hu; exact (nl hl).elim
 ·subst hu; rw [aO]; trivial
theorem BS.gone (hR:R n σ g I a w) {Z:aA} (h:BS n σ g I Z) {key:Key} (hl:Live (σ.k key).ch):BS n (σ.bF key ⟨.gone,(σ.k key).bO+1,(σ.k key).cv+1⟩) g I (fun b o=>Z b o\/g.F key b o):=by
 refine ⟨fun u hu=>?_,fun b o h1 h2=>?_,fun b o h1 h2=>?_⟩
 ·by_cases QJ:u=key
  ·subst QJ; rw [aO] at hu; exact hu.elim
  ·rw [aL _ _ QJ] at hu
   exact fun b o h1 h2=>h2.elim (h.live u hu b o h1) (hR.sep u key hu hl QJ b o h1)
 ·exact h1.elim (fun h1=>h.jh b o h1 h2) fun h1=>hR.jh key hl b o h1 h2
 ·exact h1.elim (fun h1=>h.vC b o h1 h2) fun h1=>hR.x.vC key hl b o h1 h2
theorem ED : ∀ {es:List LT} {ms:List M} {ls:List Leaf} {vs:List Value} {σ:S} {I Z:aA} {k:List T->Prog} {tr:Tr},R n σ g I a w->BS n σ g I Z->bZ σ.k g w I ls vs ->
  (vU es ms ls k).wp cf σ tr Q->∃ σ' I' dB ds bs,R n σ' g I' a w/\fZ σ.k g w I σ'.k g w I'/\ak w I' es ms vs ds bs/\fC w bs/\BS n σ' g I' (fun b o=>Z b o\/FB w bs b o)/\aA.apart Z (FB w bs)/\σ'.s=σ.s /\
   (k ds).wp cf σ' dB Q
 | [],ms,[],[],σ,I,Z,k,tr,hR,hZ,hl,h=>⟨σ,I,tr,[],[],hR,fZ.refl,by unfold ak; exact ⟨rfl,rfl,rfl⟩,by unfold fC; trivial,hZ.sub (fun b o h=>h.elim id fun h=>(nomatch h.1)),(fun b o _ h=>(nomatch h.1)),rfl,h⟩
 | [],_,[],_::_,σ,I,Z,k,tr,hR,hZ,hl,h=>hl.elim
 | [],_,_::_,vs,σ,I,Z,k,tr,hR,hZ,hl,h=>h.elim
 | _::_,_,[],vs,σ,I,Z,k,tr,hR,hZ,hl,h=>h.elim
 | e::es,_,l::ls,[],σ,I,Z,k,tr,hR,hZ,hl,h=>hl.elim
 | e::es,ms,l::ls,v::vs,σ,I,Z,k,tr,hR,hZ,hl,h=>by
  obtain ⟨st,lt,d⟩:=l
  have step : ∀ (d:T) (b1:List Nat) (σ₁:S) (I₁:aA) (afd:Tr),R n σ₁ g I₁ a w->fZ σ.k g w I σ₁.k g w I₁->σ₁.s=σ.s->bS w I₁ e (ms.headD .F) v d b1->fC w b1->BS n σ₁ g I₁ (fun b o=>Z b o\/FB w b1 b o)->aA.apart Z (FB w b1) ->
    (vU es ms.tail ls fun ds=>k (d::ds)).wp cf σ₁ afd Q ->
    ∃ σ' I' dB ds bs,R n σ' g I' a w/\fZ σ.k g w I σ'.k g w I'/\ak w I' (e::es) ms (v::vs) ds bs/\fC w bs/\BS n σ' g I' (fun b o=>Z b o\/FB w bs b o)/\aA.apart Z (FB w bs)/\σ'.s=σ.s/\(k ds).wp cf σ' dB Q:=by
   intro d b1 σ₁ I₁ afd ahz ev hs hc hn hz hza h
   obtain ⟨σ',I',dB,ds,b2,h1,h2,h3,h4,h5,h6,h7,h8⟩:=ED ahz hz (ev.UK hl.2) h
   refine ⟨σ',I',dB,d::ds,b1++b2,h1,ev.trans h2,?_,jP.2 ⟨hn,h4,vE.1 fun b o h9 h10=>h6 b o (.inr h9) h10⟩,h5.sub fun b o h9=>?_,fun b o h9 h10=>?_,h7.trans hs,h8⟩
   ·unfold ak
    exact ⟨v,vs,d,ds,b1,b2,rfl,rfl,rfl,bS.same (fun b o hb=>(h2.jh b o hb).1) hc,h3⟩
   ·rw [lH] at h9
    rcases h9 with h9 | h9 | h9
    ·exact .inl (.inl h9)
    ·exact .inl (.inr h9)
    ·exact .inr h9
   ·rcases lH.1 h10 with h10 | h10
    ·exact hza b o h9 h10
    ·exact h6 b o (.inl h9) h10
  have hzn : ∀ {σ₁:S} {I₁:aA},BS n σ₁ g I₁ Z->BS n σ₁ g I₁ (fun b o=>Z b o\/FB w [] b o):=fun hz=>hz.sub fun b o h=>h.elim id fun h=>(nomatch h.1)
  have abV:aA.apart Z (FB w []):=fun b o _ h=>(nomatch h.1)
  obtain ⟨hs,hl1⟩:=hl.1
  unfold vU at h
  simp only at h hl1
  split at h
  ·rename_i s s' _ _ _
   split at h
   ·rename_i hss
    subst hss
    obtain ⟨s',e1,hv⟩:=hl1
    cases e1
    exact step d [] σ I tr hR fZ.refl rfl (by unfold bS; exact ⟨hv,rfl⟩) trivial (hzn hZ) abV h
   ·exact h.elim
  ·obtain ⟨-,rfl,-⟩:=hl1
   rename_i es'
   have hnil:aH w I (.sl es') (.slice none 0 0) (.l []):=by unfold aH; exact ⟨none,0,[],rfl,rfl,Nat.le_refl _,Nat.zero_le _,.inl rfl⟩
   obtain ⟨hne,h⟩:=h
   refine step (.l []) [] σ I tr hR fZ.refl rfl ?_ trivial (hzn hZ) abV h
   cases hm:ms.headD .F with
   | F=>unfold bS; exact ⟨hnil,rfl⟩
   | O x =>
    rw [hm] at hne
    unfold bS
    exact ⟨[],rfl,by intro e; subst e; simp at hne,Nat.zero_le _,.inl ⟨⟨_,rfl⟩,rfl,rfl⟩⟩
  ·rename_i es'
   cases hm:ms.headD .F with
   | O x=>rw [hm] at h; exact h.elim
   | F =>
    rw [hm] at h
    simp only at h
    cases hb:LT.beq (.sl es') lt with
    | false=>rw [hb] at h; exact h.elim
    | true =>
     rw [hb] at h
     have hlt:=LT.beq_eq hb
     subst hlt
     obtain ⟨-,-,h1⟩:=hl1
     have h2:=h1 (Hf _)
     refine step d [] σ I tr hR fZ.refl rfl ?_ trivial (hzn hZ) abV h
     rw [hm]; unfold bS
     exact ⟨aH.mono (fun b o hb=>hb.elim id (fun ⟨d,hd,_⟩=>(nomatch hd))) (fun _ _ _=>rfl) _ h2,rfl⟩
  ·rename_i es' key m
   obtain ⟨-,h1,h2⟩:=hl1
   obtain ⟨h3,h⟩:=h
   have hv:=h2 (Nat.eq_of_beq_eq_true h3)
   subst hv
   have hch:=hR.tL key
   split at h
   ·rename_i es'' rows e1
    rw [e1] at hch
    cases hm:ms.headD .F with
    | O x=>rw [hm] at h; exact h.elim
    | F =>
     rw [hm] at h
     simp only at h
     cases hb:LT.d9 es' es'' with
     | false=>rw [hb] at h; exact h.elim
     | true =>
      rw [hb] at h
      have:=LT.bM hb
      subst this
      refine step (.l rows) [] σ I _ hR fZ.refl rfl ?_ trivial (hzn hZ) abV h
      rw [hm]; unfold bS
      exact ⟨hch,rfl⟩
   ·rename_i es'' afM rows e1
    rw [e1] at hch
    cases hm:ms.headD .F with
    | F =>
     rw [hm] at h
     simp only at h
     cases hb:LT.d9 es' es'' with
     | false=>rw [hb] at h; exact h.elim
     | true =>
      rw [hb] at h
      have:=LT.bM hb
      subst this
      obtain ⟨h4,h5⟩:=hR.freeze e1
      refine step (.l rows) [] _ _ _ h4 h5 rfl ?_ trivial (hzn (hZ.frz e1)) abV h
      rw [hm]; unfold bS
      exact ⟨aS.leaf hch (fun _ _ h=>.inl h) (fun _ _ h=>.inr h),rfl⟩
    | O ms' =>
     rw [hm] at h
     simp only at h
     cases hb:(LT.d9 es' es''&&M.d9 ms' afM) with
     | false=>rw [hb] at h; exact h.elim
     | true =>
      rw [hb] at h
      simp only [Bool.and_eq_true] at hb
      have:=LT.bM hb.1
      subst this
      have:=M.bM hb.2
      subst this
      obtain ⟨h4,h5⟩:=hR.gone key
      obtain ⟨bs,hn,hc,hF⟩:=hch
      have hlive:Live (σ.k key).ch:=by rw [e1]; trivial
      refine step (.l rows) bs _ _ _ h4 h5 rfl (by rw [hm]; exact hc) hn ((hZ.gone hR hlive).sub fun b o h=>h.imp id fun h=>(hF b o).2 h) (fun b o h9 h10=>hZ.live key hlive b o ((hF b o).2 h10) h9) h
   ·exact h.elim
  ·exact h.elim
end
end Go.E

namespace Go.E
open Go
section
variable {w:World} {I S A:aA}
def dN (w:World) (I:aA) (es:List LT):List (List T)->List Value->Prop
 | [],_=>True
 | r::rs,cs=>aT w I es (cs.take es.length) r/\dN w I es rs (cs.drop es.length)
theorem dN.row {b:Nat} {c:Array Value} {el:TypeId} {fz:Nat×Nat} {es:List LT} (hb:Block w b c el fz) : ∀ (rows:List (List T)) (k:Nat),dN w I es rows (c.toList.drop k)->k+rows.length * es.length<=c.size ->
  ∀ i (hi:i<rows.length),dG w (fun _ _=>True) I es b (k+i * es.length) rows[i]
 | [],_,_,_,i,hi=>by simp at hi
 | r::rs,k,h,hn,i,hi=>by
  have hn':k+es.length+rs.length * es.length<=c.size:=by simp only [List.length_cons,Nat.add_mul] at hn; omega
  cases i with
  | zero =>
   refine dG.Za (vs:=(c.toList.drop k).take es.length) (by simpa using h.1) (bL.of_block hb _ _ fun j hj=>?_)
   simp only [List.length_take,List.length_drop,Array.length_toList] at hj
   simp only [List.getElem_take,List.getElem_drop,Array.getElem_toList,Nat.zero_mul,Nat.add_zero]
   exact Array.getElem?_eq_getElem (by omega)
  | succ i =>
   have h2:=h.2
   rw [List.drop_drop] at h2
   have:=dN.row hb rs (k+es.length) h2 hn' i (by simpa using hi)
   rw [show k+(i+1) * es.length=k+es.length+i * es.length from by rw [Nat.add_mul]; omega]
   simpa using this
theorem dN.mono {w w':World} {I I':aA} (h : ∀ b o,I b o->I' b o/\cellAt w' b o=cellAt w b o) {es:List LT} : ∀ {rows:List (List T)} {cs:List Value},dN w I es rows cs->dN w' I' es rows cs
 | [],_,_=>trivial
 | _::_,_,hh=>⟨hh.1.mono h,dN.mono h hh.2⟩
theorem dN.toM {es:List LT} {ms:List M} (hm:noO ms) : ∀ {rows:List (List T)} {cs:List Value},dN w I es rows cs->aK (fun vs ds bs=>ak w I es ms vs ds bs) es.length rows cs []
 | [],cs,_=>rfl
 | r::rs,cs,h=>⟨[],[],rfl,ak.of_flat hm h.1,dN.toM hm h.2⟩
theorem aK.toV {es:List LT} {ms:List M} {S:aA} (hs : ∀ b o,I b o->S b o) : ∀ {rows:List (List T)} {cs:List Value} {bs:List Nat},(∀ b o,FB w bs b o->S b o)->aK (fun vs ds bs=>ak w I es ms vs ds bs) es.length rows cs bs->dN w S es rows cs
 | [],cs,bs,_,_=>trivial
 | r::rs,cs,bs,hb,h=>by
  obtain ⟨b1,b2,rfl,h1,h2⟩:=h
  exact ⟨ak.leaves hs es (fun b o h=>hb b o (lH.2 (.inl h))) h1,aK.toV hs (fun b o h=>hb b o (lH.2 (.inr h))) h2⟩
theorem dN.app {es:List LT} : ∀ {rows rows':List (List T)} {cs cs':List Value},dN w I es rows cs->cs.length=rows.length * es.length->dN w I es rows' cs'->dN w I es (rows++rows') (cs++cs')
 | [],rows',cs,cs',h,hn,h'=>by
  have:cs=[]:=List.length_eq_zero_iff.1 (by simpa using hn)
  subst this; exact h'
 | r::rs,rows',cs,cs',h,hn,h'=>by
  simp only [List.length_cons,Nat.add_mul,Nat.one_mul] at hn
  have hle:es.length<=cs.length:=by omega
  refine ⟨?_,?_⟩
  ·rw [List.take_append_of_le_length hle]; exact h.1
  ·rw [List.drop_append_of_le_length hle]
   exact dN.app h.2 (by rw [List.length_drop]; omega) h'
theorem dN.tail {es:List LT} : ∀ {rows:List (List T)} {cs cs':List Value},dN w I es rows cs->dN w I es rows (cs++cs')
 | [],cs,cs',h=>trivial
 | r::rs,cs,cs',h=>by
  have hlen:=h.1.len.1
  have hle:es.length<=cs.length:=by rw [List.length_take] at hlen; omega
  refine ⟨?_,?_⟩
  ·rw [List.take_append_of_le_length hle]; exact h.1
  ·rw [List.drop_append_of_le_length hle]; exact dN.tail h.2
end
section
variable {Γ:Ctx} {P:Program} {cf:FuncId->List Arg->R3 gu}
variable {n:Fr} {σ:S} {g:Gh} {I:aA} {a:Act} {w w':World}
variable {o:Oper} {f:FuncId} {tr:Tr} {Q:S->Tr->Prop} {K:Act->World->Prop} {Qm:Exit->Act->World->Prop}
theorem Zd {d0:Nat} {c:Array Value} {el:TypeId} {ls:List Leaf} (hdst:o.dst=some d0) (hd:dI n.np n.nt o=true) (hR:R n σ g I a w) (hK:Post P n I w Q K)
  (hrun:(execOp a.eval o).run P w = .ok (.value (.pointer (some ⟨w.heap.size,0,none⟩))) (World.pushed w (.cells c el))) (hl:bZ σ.k g w I ls c.toList)
  (h:(abD d0 ls).wp cf σ tr Q):Goal P o a w K Qm:=by
 refine xU hrun ?_
 rw [hdst]
 obtain ⟨hdn,hkp⟩:=DL hd hdst
 let F:aA:=fun b o'=>b=w.heap.size/\o'<c.size
 have hk:=oO w (.cells c el)
 have ev:=aed hR [d0+2000000] ⟨.box ls,(σ.k [d0+2000000]).bO+1,(σ.k [d0+2000000]).cv+1⟩ (.pointer (some ⟨w.heap.size,0,none⟩)) F (by simp) (by simp) hk
 have hlen:=hl.len
 have abW:lF (σ.bF [d0+2000000] ⟨.box ls,(σ.k [d0+2000000]).bO+1,(σ.k [d0+2000000]).cv+1⟩).k (g.set [d0+2000000] (.pointer (some ⟨w.heap.size,0,none⟩)) F) (World.pushed w (.cells c el)) I ls (.pointer (some ⟨w.heap.size,0,none⟩)) F:=by
  refine ⟨w.heap.size,0,c,el,(0,0),rfl,sN w c el (0,0),by simp at hlen; omega,fun j hj=>by omega,fun b' o'=>?_,?_⟩
  ·simp only [F,Nat.zero_le,true_and,Nat.zero_add]
   simp at hlen
   rw [hlen]
  ·rw [List.drop_zero,<-hlen,List.take_length]
   exact ev.UK hl
 have hR':=hR.abU [d0+2000000] ⟨.box ls,(σ.k [d0+2000000]).bO+1,(σ.k [d0+2000000]).cv+1⟩ (.pointer (some ⟨w.heap.size,0,none⟩)) F (by simp) (by simp) hk (hkp n.big _) (fun b o' hf=>by rw [hf.1]; exact Nat.le_refl _)
  (by simp only [Fx,Gh.mO,Gh.jl]; exact abW)
 refine hK _ _ _ I _ _ h (hR'.put hdn (e:=.ptr [d0+2000000] ((σ.k [d0+2000000]).bO+1) 0 0) ⟨⟨fun _ h=>(nomatch h),fun _ h=>(nomatch h)⟩,?_,fun _=>⟨w.heap.size,0,rfl,?_⟩⟩) (fun _ _ h=>h) (hk.weaken fun _ _ _=>trivial)
 ·rw [aO]; exact Nat.le_refl _
 ·rw [Gh.mO]; rfl
theorem Nn {d0:Nat} {c:Array Value} {el:TypeId} {fz:Nat×Nat} {es:List LT} {ms:List M} {rows:List (List T)} {b cap:Nat} {bs:List Nat} {p:Prog} {Q:S->Tr->Prop} (hdst:o.dst=some d0) (hd:dI n.np n.nt o=true) (hR:R n σ g I a w) (hK:Post P n I w Q K)
  (hk:Keeps (fun _ _=>True) w w') (hb:w.heap.size<=b) (hblk:Block w' b c el fz) (hfz : ∀ o',o'<=c.size->¬ (fz.1<=o'/\o'<fz.2))
  (hrun:(execOp a.eval o).run P w = .ok (.value (.slice (some ⟨b,0,none⟩) rows.length cap)) w') (hes:es≠[]) (h1:rows.length<=bC) (h2:rows.length<=cap)
  (h4:c.size=cap * es.length) (hn:fC w bs) (hz:BS n σ g I (FB w bs)) (hrows:aK (fun vs ds bs=>ak w I es ms vs ds bs) es.length rows c.toList bs) (h:(J8 d0 es ms rows).wp cf σ tr Q):Goal P o a w K Qm:=by
 refine xU hrun ?_
 rw [hdst]
 obtain ⟨hdn,hkp⟩:=DL hd hdst
 have hbs : ∀ x∈bs,∃ c el fz,Block w x c el fz:=nD (I:=I) (fun vs ds bs h=>ak.blocks es h) _ hrows
 have hlt : ∀ x∈bs,x<w.heap.size:=fun x hx=>by
  obtain ⟨c,el,fz,h⟩:=hbs x hx
  exact (Array.getElem?_eq_some_iff.1 h).1
 let F:aA:=fun b' o'=>(b'=b/\o'<c.size)\/FB w bs b' o'
 let e:KE:=⟨.row es ms rows,(σ.k [d0+2000000]).bO+1,(σ.k [d0+2000000]).cv+1⟩
 have hiI : ∀ b o,I b o->I b o/\cellAt w' b o=cellAt w b o:=fun b o hi=>⟨hi,hk.qC (hR.xS b o hi)⟩
 have hrow:aS w' I es ms rows (.slice (some ⟨b,0,none⟩) rows.length cap) F:=by
  refine aS.mk' hes h1 h2 hblk h4 hfz (aK.imp (fun vs ds b' _ h=>ak.keep hk hiI es (fun _ _ _=>trivial) h) hrows) ⟨fun hm=>?_,pU hk hbs hn⟩ (fun b' o'=>?_)
  ·have:=hlt b hm; omega
  ·rw [DN hk hbs]
 obtain ⟨hR',-⟩:=hR.touch (σ':=σ.bF [d0+2000000] e) (g':=g.set [d0+2000000] (.slice (some ⟨b,0,none⟩) rows.length cap) F) (I':=I) (w':=w') (fun u=>u=[d0+2000000]) (FB w bs) rfl rfl
  (fun u hu=>⟨aL _ _ hu,Gh.wh _ _ _ hu,Gh.sM _ _ _ hu⟩) (fun u hu=>by subst hu; rw [aO]; exact ⟨Nat.lt_succ_self _,Nat.le_succ _,fun h=>by have h:(σ.k [d0+2000000]).bO+1=(σ.k [d0+2000000]).bO:=h; omega⟩)
  (fun u hu hp=>by subst hu; exact absurd hp (hkp n.big _)) (fun u hu _ b' o' hf=>by subst hu; rw [Gh.jl] at hf; exact hf.elim (fun h=>.inr (by rw [h.1]; exact hb)) .inl)
  (fun u v hu hv _ _ hne=>absurd (hu.trans hv.symm) hne) (fun u _ hl=>hz.live u hl) hz.jh hz.vC (hk.weaken fun _ _ _=>trivial) (fun _ _ h=>h) (fun _ _ h=>.inl h)
  (fun u hu _ b' o' hf hi=>by
   subst hu; rw [Gh.jl] at hf
   rcases hf with hf | hf
   ·have:=mg (hR.xS b' o' hi); rw [hf.1] at this; omega
   ·exact hz.jh b' o' hf hi)
  (fun b' o' hi=>by obtain ⟨v,hv⟩:=hR.xS b' o' hi; exact ⟨v,(hk.qC ⟨v,hv⟩).trans hv⟩)
  (fun _ u hu=>by subst hu; rw [aO]; simp only [e,Fx,Gh.mO,Gh.jl]; exact hrow)
 refine hK _ _ _ I _ _ h (hR'.put hdn (e:=.one ⟨.al [d0+2000000] ((σ.k [d0+2000000]).bO+1),.sl es,.l []⟩) ⟨⟨fun _ h=>(nomatch h),fun _ h=>(nomatch h)⟩,trivial,?_,fun _=>?_⟩) (fun _ _ h=>h) (hk.weaken fun _ _ _=>trivial)
 ·rw [aO]; exact Nat.le_refl _
 ·rw [Gh.mO]
theorem DT {κ:Key->KE} : ∀ {aP:List LT} {vs:List Value},DK aP vs->bZ κ g w I (aP.map GI) vs
 | [],[],_=>trivial
 | lt::aP,v::vs,h=>by
  refine ⟨?_,DT h.2⟩
  have h1:=h.1
  cases lt with
  | sl es=>cases h1; exact ⟨⟨fun _ h=>(nomatch h),fun _ h=>(nomatch h)⟩,trivial,rfl,rfl⟩
  | sc s =>
   cases s with
   | int k=>cases h1; exact ⟨⟨fun _ h=>(nomatch h),fun _ h=>(nomatch h)⟩,.int k,rfl,0,rfl,rfl,G9 k⟩
   | bool=>cases h1; exact ⟨⟨fun _ h=>(nomatch h),fun _ h=>(nomatch h)⟩,.bool,rfl,false,rfl,rfl⟩
   | str=>cases h1; exact ⟨⟨fun _ h=>(nomatch h),fun _ h=>(nomatch h)⟩,.str,rfl,.empty,rfl,rfl,by decide⟩
   | any=>exact ⟨h1,trivial⟩
 | [],_::_,h=>h.elim
 | _::_,[],h=>h.elim
theorem Kh : ∀ {aP:List LT} {vs:List Value},DK aP vs->aP.all (fun l=>match l with | .sc .any=>false | _=>true)=true->aT w I aP vs (aP.map Dw)
 | [],[],_,_=>trivial
 | lt::aP,v::vs,h,ha=>by
  simp only [List.all_cons,Bool.and_eq_true] at ha
  refine ⟨?_,Kh h.2 ha.2⟩
  have h1:=h.1
  unfold aH
  cases lt with
  | sl es=>cases h1; exact ⟨none,0,[],rfl,rfl,Nat.le_refl _,Nat.zero_le _,.inl rfl⟩
  | sc s =>
   cases s with
   | int k=>cases h1; exact ⟨0,rfl,rfl,G9 k⟩
   | bool=>cases h1; exact ⟨false,rfl,rfl⟩
   | str=>cases h1; exact ⟨.empty,rfl,rfl,by decide⟩
   | any=>simp at ha
 | [],_::_,h,_=>h.elim
 | _::_,[],h,_=>h.elim
theorem qD {t:TypeId} {ti:TI} (h:uo Γ P t ti) : ∃ z,(zeroValue t).run P w = .ok z w/\DK ti.aP z.cells.toList:=by
 obtain ⟨i,h1,-,-,-,-,z,hz,h2⟩:=h.info
 exact ⟨z,by simp [zeroValue,typeInfo,h1,hz,go_sem],h2⟩
theorem Hq {κ:Key->KE} {e:fA} {v:Value} {ls:List Leaf} (he:jq κ g w I e v) (h:Ay e=some ls):bZ κ g w I ls v.cells.toList:=by
 cases e with
 | one l =>
  cases h
  have h1:Dt κ g w I l v:=he
  rw [h1.1.cells]
  exact ⟨h1,trivial⟩
 | agg ls' =>
  cases h
  obtain ⟨cs,rfl,h1⟩:=he
  exact h1
 | _=>cases h
end
end Go.E

